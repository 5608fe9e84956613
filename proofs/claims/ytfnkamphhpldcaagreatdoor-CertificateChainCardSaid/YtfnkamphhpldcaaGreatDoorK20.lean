import Derived.Test.YtfnkamphhpldcaaGreatDoorK19
import Derived.Test.YtfnkamphhpldcaaGreatDoorK15
set_option maxHeartbeats 64000000
namespace Go.Proofs.YtfnkamphhpldcaaGreatDoor
open Go Sx Tryz
set_option maxRecDepth 100000
variable {μ:Mu}{c i:Nat}
theorem j0{τ:Mu}{a b j i':Nat}{l:List UInt8}(h:τ a 0=(j,0))(d:μ b 0=(j,0)):subE (some ((outC i' a c l).ren τ)) ((outC i b c l).ren μ):=by
 rw[mo h,mo d];exact rfl
theorem Ae{p:Int}{x:Ln}(h:x.2.length<=1000):(lineW p x).length<=74545:=by
 unfold lineW;have h1:=eH x.1;have a:=dt x.2;rw[qb];split
 ·omega
 ·simp;omega
theorem oJ{p:Int}:∀(l:List Ln),(∀x∈l,x.2.length<=1000)->(l.map (lineW p)).flatten.length<=74545*l.length
 |[],_=>by simp
 |x::r,h=>by
  have h1:=Ae (p:=p) (h x ss);have b:=oJ (p:=p) r (fun y a=>h y (by simp[a]));simp only[q9,jw,qb,qf];omega
theorem C4(T:PFun)(F:Fz)(L:List Ln)(w h:Int)(bits:List UInt8)(c:Nat)(caps:Nat->Nat)(p:Int)(hp:¬6<=p)(ac:L≠[])(hl:L.length<=1000)(hx:∀x∈L,x.1.length<=70000/\x.2.length<=1000):
  Ct prog 131 [valV ⟨false,L,w,h,bits⟩ 1 c,.va (.int .i64 p)] F (valH ⟨false,L,w,h,bits⟩ c caps) 3 (fun o _ G n0=>n0=3/\o=.ret (.va (.str (bE p ⟨false,L,w,h,bits⟩)))/\G=valH ⟨false,L,w,h,bits⟩ c caps):=by
 have hW:bE p ⟨false,L,w,h,bits⟩=aB [(L.length:Int)]++(L.map (lineW p)).flatten:=by rw[bE,if_neg ss,if_neg hp]
 rcases L with _ | ⟨a0,ar⟩
 ·exact absurd rfl ac
 refine ctS func131 ?_;refine brj hp ?_;refine bM 5 (fun _=>.arr 3 1 ([((ar.length+1:Nat):Int)].map encI) 1) ?_;intro b1 F1 l1 aa;have W:=il T F1 _ [((ar.length+1:Nat):Int)] [] 0 (Sl.new (l:=[((ar.length+1:Nat):Int)]) (cap:=1) (aa 0 rfl)) ss ss;refine useS W [(1,4),(2,5)] ⟨c9 oo _ _ _,aC aA _ _ _ _ _,tv⟩ ⟨rfl,rfl,tv⟩ ?_;rintro g S G n0 B ⟨rfl,rfl,rfl,c1,rfl⟩;conv=>whnf
 refine aI hΘ (X:={ x:Nat×List UInt8×Nat // x.1<=ar.length+1/\x.2.1=aB [((ar.length+1:Nat):Int)]++(((a0::ar).take x.1).map (lineW p)).flatten }) (fun x=>[(21,.va (.int .i64 x.1.1))]) (9::jr 22 14 [])
  (fun x=>[(0,.frz F1),(1,bF 2 caps c (a0::ar)),(2,famE caps (a0::ar)),(4,outC 1 7 x.1.2.2 x.1.2.1),(6,.gone),(7,gE 5 1 encB x.1.2.2 x.1.2.1)]) 8 (fun x=>ar.length+1 - x.1.1) ⟨(0,[]++aB [((ar.length+1:Nat):Int)],c1),by simp⟩
  (fun Y Z=>leI [(7,6)] Y Z rfl ⟨tv,cV oo _ _ _,cW _ _ _,c9 oo _ _ _,tv,aC aA _ _ _ _ _,tv⟩ ⟨rfl,tv⟩ ⟨Fz.r F1,er (fun k=>rfl),dX (μ:=sig [(7,6)]) (caps:=caps) (l:=a0::ar),j0 (i:=1) (i':=1) (a:=3) (b:=7) (j:=6) (by rfl) (by rfl),cH aA,tv⟩) ?_
 rintro⟨⟨k,ob,cb⟩,hk,D⟩ Y Z;replace hk:k<=ar.length+1:=hk;replace D:ob=aB [((ar.length+1:Nat):Int)]++(((a0::ar).take k).map (lineW p)).flatten:=D
 have af:ob.length<=100000000000:=by
  have h1:=dt [((ar.length+1:Nat):Int)];have h2:=oJ (p:=p) ((a0::ar).take k) (fun x ad=>(hx x (yf ad)).2);have h3:((a0::ar).take k).length<=1000:=by rw[qn];omega
  rw[D,qb];simp only[qf,qv]at h1;omega
 refine br (fun V=>?_) (fun V=>?_)
 ·have gk:k < ar.length+1:=by
   have G:(k:Int) < ((ar.length+1:Nat):Int):=od V;omega
  clear V;have O:k < (a0::ar).length:=gk;have E:=hx _ (qt O);have ab:∃t n,(a0::ar)[k]=(t,n):=⟨_,_,rfl⟩
  obtain⟨t,n,A⟩:=ab;rw[A]at E;replace E:t.length<=70000/\n.length<=1000:=E;have R:=gO 2 caps 0 (a0::ar) k (t,n) (by rw[qc O,A])
  have e:(ob++(if p=1 then(putSR t).1 else []))++aB n=aB [((ar.length+1:Nat):Int)]++(((a0::ar).take (k+1)).map (lineW p)).flatten:=by
   rw[eX O,A,lineW,D];simp only[ql]
  refine⟨rfl,⟨by simp,by show(k:Int) < ((ar.length+1:Nat):Int);omega⟩,rfl,_,by show(bI 2 caps 0 (a0::ar))[0+(k:Int).toNat]? =_;rw[qz,qg];exact R,?_⟩;refine br (fun g1=>?_) (fun g1=>?_)
  ·have M:p=1:=od g1;rw[if_pos M]at e;have ag:=eH t;have d:(ob++(putSR t).1).length<=1000000000000:=by rw[qb];omega
   refine useS (qU T F1 t ob cb oo oo) [(1,4),(2,7)] ⟨c9 oo _ _ _,aC aA _ _ _ _ _,tv⟩ ⟨km (i:=1) (i':=1) (j:=2) (j':=7) (by rfl),aH aA (aV _ _ _ _),tv⟩ ?_;rintro g S G n1 B ⟨rfl,rfl,rfl,c2,rfl⟩;rcases n with _ | ⟨n0,I⟩
   case' nil=>
    refine useS (il T F1 _ [] (ob++(putSR t).1) c2 Sl.nil ss d) [(1,4),(2,9)] ⟨c9 oo _ _ _,aC aA _ _ _ _ _,tv⟩ ⟨j0 (i:=1) (i':=1) (a:=3) (b:=2) (j:=9) (by rfl) (by rfl),cH aA,tv⟩ ?_;rintro g S G n1 B ⟨rfl,rfl,rfl,U,rfl⟩;conv=>whnf
   case' cons=>
    refine lend 2 (fun k=>(famE caps (a0::ar)).at k) rfl rfl rfl (fun k _=>es _ _ _) (fun k _=>eq _ _ _) ?_;intro bf K ae Q;have s:=iN caps (l:=a0::ar) (k:=k) (x:=(t,n0::I)) (by rw[qc O,A]);have u:(famE caps (a0::ar)).has k:=⟨O,by show(!((((a0::ar).map (·.2)).getD k []).isEmpty))=true;rw[s];rfl⟩
    have f:K (bf k)=some ((famE caps (a0::ar)).at k):=Q k u;have m:(famE caps (a0::ar)).at k=.arr 3 1 ((n0::I).map encI) (caps k):=by show SB.arr 3 1 ((((a0::ar).map (·.2)).getD k []).map encI) (caps k)=_;rw[s]
    rw[m,<-qz k]at f;refine useS (il T K _ (n0::I) (ob++(putSR t).1) c2 (Sl.new (l:=n0::I) (cap:=caps (0+k)) f) (by simp at E ⊢;omega) d) [(1,4),(2,9)] ⟨c9 oo _ _ _,aC aA _ _ _ _ _,tv⟩ ⟨j0 (i:=1) (i':=1) (a:=3) (b:=2) (j:=9) (by rfl) (by rfl),cH aA,tv⟩ ?_;rintro g S G n1 B ⟨rfl,rfl,rfl,U,rfl⟩;refine⟨K,rfl,Fz.r _,rfl,?_⟩;conv=>whnf
   all_goals
    exact⟨⟨(k+1,_++aB _,U),by show k+1<=ar.length+1;omega,e⟩,by show ar.length+1 - (k+1) < ar.length+1 - k;omega,
     leR [(7,10)] Y Z rfl ⟨tv,cV oo _ _ _,cW _ _ _,c9 oo _ _ _,tv,aC aA _ _ _ _ _,tv⟩ ⟨cnt oo,tv⟩
     ⟨Fz.r F1,er (fun k=>rfl),dX (μ:=sig [(7,10)]) (caps:=caps) (l:=a0::ar),j0 (i:=1) (i':=1) (a:=3) (b:=7) (j:=10) (by rfl) (by rfl),cH aA,tv⟩⟩
  ·have M:¬p=1:=oe g1;rw[if_neg M,qx]at e;have d:ob.length<=1000000000000:=by omega
   rcases n with _ | ⟨n0,I⟩
   case' nil=>
    refine useS (il T F1 _ [] (ob) cb Sl.nil ss d) [(1,4),(2,7)] ⟨c9 oo _ _ _,aC aA _ _ _ _ _,tv⟩ ⟨km (i:=1) (i':=1) (j:=2) (j':=7) (by rfl),aH aA (aV _ _ _ _),tv⟩ ?_;rintro g S G n1 B ⟨rfl,rfl,rfl,U,rfl⟩;conv=>whnf
   case' cons=>
    refine lend 2 (fun k=>(famE caps (a0::ar)).at k) rfl rfl rfl (fun k _=>es _ _ _) (fun k _=>eq _ _ _) ?_;intro bf K ae Q;have s:=iN caps (l:=a0::ar) (k:=k) (x:=(t,n0::I)) (by rw[qc O,A]);have u:(famE caps (a0::ar)).has k:=⟨O,by show(!((((a0::ar).map (·.2)).getD k []).isEmpty))=true;rw[s];rfl⟩
    have f:K (bf k)=some ((famE caps (a0::ar)).at k):=Q k u;have m:(famE caps (a0::ar)).at k=.arr 3 1 ((n0::I).map encI) (caps k):=by show SB.arr 3 1 ((((a0::ar).map (·.2)).getD k []).map encI) (caps k)=_;rw[s]
    rw[m,<-qz k]at f;refine useS (il T K _ (n0::I) (ob) cb (Sl.new (l:=n0::I) (cap:=caps (0+k)) f) (by simp at E ⊢;omega) d) [(1,4),(2,7)] ⟨c9 oo _ _ _,aC aA _ _ _ _ _,tv⟩ ⟨km (i:=1) (i':=1) (j:=2) (j':=7) (by rfl),aH aA (aV _ _ _ _),tv⟩ ?_;rintro g S G n1 B ⟨rfl,rfl,rfl,U,rfl⟩;refine⟨K,rfl,Fz.r _,rfl,?_⟩;conv=>whnf
   all_goals
    exact⟨⟨(k+1,_++aB _,U),by show k+1<=ar.length+1;omega,e⟩,by show ar.length+1 - (k+1) < ar.length+1 - k;omega,
     leR [(7,9)] Y Z rfl ⟨tv,cV oo _ _ _,cW _ _ _,c9 oo _ _ _,tv,aC aA _ _ _ _ _,tv⟩ ⟨cnt oo,tv⟩
     ⟨Fz.r F1,er (fun k=>rfl),dX (μ:=sig [(7,9)]) (caps:=caps) (l:=a0::ar),j0 (i:=1) (i':=1) (a:=3) (b:=7) (j:=9) (by rfl) (by rfl),cH aA,tv⟩⟩
 ·have gk:k=ar.length+1:=by
   have G:¬(k:Int) < ((ar.length+1:Nat):Int):=oe V;omega
  clear V
  have J:ob=bE p ⟨false,a0::ar,w,h,bits⟩:=by
   rw[hW,D,gk];have:(a0::ar).take (ar.length+1)=a0::ar:=qk ss;rw[this];rfl
  rcases ob with _ | ⟨y,q⟩
  ·exact e7 J l1 rfl rfl rfl
  ·refine⟨rfl,by simp,(y::q).map encB,by show(((y::q).map encB).drop 0).take (q.length+1)=_;rw[y5,qk ss],y::q,rfl,?_⟩;exact e7 J l1 rfl rfl rfl
theorem Ds(s:PFun)(F:Fz)(w h:Int)(bits:List UInt8)(c:Nat)(caps:Nat->Nat)(p:Int)(m:¬6<=p):
  Ct prog 131 [valV ⟨false,[],w,h,bits⟩ 1 c,.va (.int .i64 p)] F (valH ⟨false,[],w,h,bits⟩ c caps) 3 (fun o _ d n0=>n0=3/\o=.ret (.va (.str (bE p ⟨false,[],w,h,bits⟩)))/\d=valH ⟨false,[],w,h,bits⟩ c caps):=by
 have e:bE p ⟨false,[],w,h,bits⟩=[]++aB [0]:=by rw[bE,if_neg ss,if_neg m];exact qx (aB [0])
 obtain⟨j,i⟩:∃j,[]++aB [0]=j:=⟨_,rfl⟩
 refine ctS func131 ?_;refine brj m ?_;refine bM 5 (fun _=>.arr 3 1 ([(0:Int)].map encI) 1) ?_;intro u F1 n f;have a:=il s F1 _ [0] [] 0 (Sl.new (l:=[(0:Int)]) (cap:=1) (f 0 rfl)) ss ss;rw[i]at a e;rcases j with _ | ⟨x,r⟩
 ·refine useS a [(1,4),(2,5)] ⟨c9 oo _ _ _,aC aA _ _ _ _ _,tv⟩ ⟨rfl,rfl,tv⟩ ?_;rintro b k d n0 g ⟨rfl,rfl,rfl,q,rfl⟩;conv=>whnf
  refine rounds hΘ 1 ?_;refine brd dd ?_;exact e7 e.symm n rfl rfl rfl
 ·refine useS a [(1,4),(2,5)] ⟨c9 oo _ _ _,aC aA _ _ _ _ _,tv⟩ ⟨rfl,rfl,tv⟩ ?_;rintro b k d n0 g ⟨rfl,rfl,rfl,q,rfl⟩;conv=>whnf
  refine rounds hΘ 1 ?_;refine brd dd ⟨rfl,by simp,(x::r).map encB,convR _ (x::r) _ rfl,x::r,rfl,?_⟩;exact e7 e.symm n rfl rfl rfl
structure Fits(v:Val):Prop where
 h1:v.lines.length<=1000
 h2:∀x∈v.lines,x.1.length<=70000/\x.2.length<=1000
 h3:v.bits.length<=70000
theorem ybi(e:PFun)(F:Fz)(v:Val)(c:Nat)(caps:Nat->Nat)(p:Int)(f:Fits v)(k:p<=8):
  Ct prog 131 [valV v 1 c,.va (.int .i64 p)] F (valH v c caps) 3 (fun o _ i n0=>n0=3/\o=.ret (.va (.str (bE p v)))/\i=valH v c caps):=by
 by_cases a:v.lost=true
 ·exact Dr F v c caps p a
 ·have a:v.lost=false:=by simpa using a
  by_cases g:6<=p
  ·exact CR e F v c caps p a oo f.h3
  ·obtain⟨d,L,w,h,bits⟩:=v;replace a:d=false:=a;subst a;by_cases b:L=[]
   ·subst b;exact Ds e F w h bits c caps p g
   ·exact C4 e F L w h bits c caps p g b f.h1 f.h2
theorem xh(r:List Int):∀x:Int,(r.foldl (fun m x=>if x < m then x else m) x∈x::r)/\∀y∈x::r,r.foldl (fun m x=>if x < m then x else m) x<=y:=by
 induction r with
 |nil=>intro x;simp
 |cons a r ih=>
  intro x;obtain⟨h1,b⟩:=ih (if a < x then a else x);simp only[qaj];refine⟨?_,?_⟩
  ·rcases qi.1 h1 with h | h
   ·rw[h];split<;>simp
   ·exact yj _ (yj _ h)
  ·intro y hy;have c:=b _ qbn;rcases qi.1 hy with rfl | hy
   ·refine qa6 c ?_;split<;>omega
   ·rcases qi.1 hy with rfl | hy
    ·refine qa6 c ?_;split<;>omega
    ·exact b y (yj _ hy)
theorem xi(r:List Int):∀x:Int,(r.foldl (fun m x=>if x>m then x else m) x∈x::r)/\∀y∈x::r,y<=r.foldl (fun m x=>if x>m then x else m) x:=by
 induction r with
 |nil=>intro x;simp
 |cons a r ih=>
  intro x;obtain⟨h1,b⟩:=ih (if a>x then a else x);simp only[qaj];refine⟨?_,?_⟩
  ·rcases qi.1 h1 with h | h
   ·rw[h];split<;>simp
   ·exact yj _ (yj _ h)
  ·intro y hy;have c:=b _ qbn;rcases qi.1 hy with rfl | hy
   ·refine qa6 ?_ c;split<;>omega
   ·rcases qi.1 hy with rfl | hy
    ·refine qa6 ?_ c;split<;>omega
    ·exact b y (yj _ hy)
variable {s:List Int}
theorem kV(h:s≠[]):mn s∈s:=by
 cases s with
 |nil=>exact absurd rfl h
 |cons x r=>exact(xh r x).1
theorem mn_le{y:Int}(h:y∈s):mn s<=y:=by
 cases s with
 |nil=>cases h
 |cons x r=>exact(xh r x).2 y h
theorem kX(h:s≠[]):mx s∈s:=by
 cases s with
 |nil=>exact absurd rfl h
 |cons x r=>exact(xi r x).1
theorem le_mx{y:Int}(h:y∈s):y<=mx s:=by
 cases s with
 |nil=>cases h
 |cons x r=>exact(xi r x).2 y h
theorem mn_eq{m:Int}(h:m∈s)(a:∀y∈s,m<=y):mn s=m:=
 Int.le_antisymm (mn_le h) (a _ (kV (by intro e;rw[e]at h;cases h)))
theorem mx_eq{m:Int}(h:m∈s)(a:∀y∈s,y<=m):mx s=m:=
 Int.le_antisymm (a _ (kX (by intro e;rw[e]at h;cases h))) (le_mx h)
theorem fa(κ:Int)(a b:List Stp):sel κ (a++b)=sel κ a++sel κ b:=by simp[sel]
variable {κ:Int}{l:List Stp}
theorem yhh{ν:Int}:ν∈sel κ l↔(κ,ν)∈l:=by
 simp only[sel,jk,qdr,decide_eq_true_eq];constructor
 ·rintro⟨⟨k,n⟩,⟨h1,a⟩,b⟩;simp only at a b;subst a;subst b;exact h1
 ·intro h;exact⟨(κ,ν),⟨h,rfl⟩,rfl⟩
theorem fv{p:Int}(h:aM p l=true):∀s∈l,aS p s=true:=by
 simp only[aM,qd]at h;exact fun s a=>qo.1 h.2.2 s a
theorem fM{p:Int}(h:aM p l=true):1<=p/\p<=8:=by
 simp only[aM,qd,decide_eq_true_eq]at h;exact h.1
theorem ybe{p:Int}(b:1<=p/\p<=8)(a:l.length<=64)(h:∀s∈l,aS p s=true):aM p l=true:=by
 simp only[aM,qd,decide_eq_true_eq];exact⟨b,a,qo.2 h⟩
theorem Al{t:Stp}(h:t∈piece κ s):t.1=κ/\t.2∈s:=by
 unfold piece at h;split at h
 ·cases h
 ·rename_i a;split at h
  ·rename_i b;simp only[qs]at h;subst h;exact⟨b.symm,kX a⟩
  ·split at h
   ·rename_i c;simp only[jk]at h;obtain⟨n,d,rfl⟩:=h;exact⟨c.symm,yf d⟩
   ·simp only[qs]at h;subst h;exact⟨rfl,kV a⟩
def cut(κ:Int)(s:List Int):List Int:=(piece κ s).map (·.2)
theorem AZ(κ b:Int)(s:List Int):sel κ (piece b s)=if b=κ then cut κ s else []:=by
 have h1:∀t∈piece b s,t.1=b:=fun t a=>(Al a).1
 split
 ·rename_i h;subst h;unfold sel cut;rw[qd2.2 (fun t a=>by simp[h1 t a])]
 ·rename_i h;unfold sel;rw[qdl.2 (fun t a=>by simp[h1 t a,h])];rfl
theorem mz(a:sel 6 l=[])(κ:Int)(b:κ=1\/κ=2\/κ=3\/κ=4\/κ=5\/κ=6):sel κ (normS l)=if κ=6 then []else cut κ (sel κ l):=by
 unfold normS;rw[if_pos a];simp only[pieces,jw,y6,qw,qx,fa,AZ];rcases b with rfl | rfl | rfl | rfl | rfl | rfl<;>simp
theorem rj(κ:Int):cut κ []=[]:=rfl
theorem Ek:cut κ s=[]↔s=[]:=by
 constructor
 ·intro h;apply Classical.byContradiction;intro a;unfold cut piece at h;rw[if_neg a]at h;split at h
  ·cases h
  ·split at h
   ·simp at h;exact a h
   ·cases h
 ·rintro rfl;rfl
theorem AA(s t:List Int):piece κ (cut κ s++cut κ t)=piece κ (s++t):=by
 by_cases a:s=[]
 ·subst a;rw[rj,qw,qw];by_cases b:t=[]
  ·subst b;rfl
  ·have j:¬cut κ t=[]:=fun h=>b (Ek.1 h)
   by_cases c:κ=3
   ·simp[piece,cut,b,c,mx]
   ·by_cases d:κ=5
    ·subst d;simp[piece,cut,b,Function.comp_def,qbl]
    ·simp[piece,cut,b,c,d,mn]
 ·by_cases b:t=[]
  ·subst b;rw[rj,qx,qx];by_cases c:κ=3
   ·simp[piece,cut,a,c,mx]
   ·by_cases d:κ=5
    ·subst d;simp[piece,cut,a,Function.comp_def,qbl]
    ·simp[piece,cut,a,c,d,mn]
  ·by_cases c:κ=3
   ·subst c
    have e:mx (s++t)=mx ([mx s]++[mx t]):=by
     refine mx_eq ?_ ?_
     ·rcases qi.1 (kX (s:=[mx s]++[mx t]) ss)with h | h
      ·rw[h];exact qa3 _ (kX a)
      ·rw[qs.1 h];exact qbt _ (kX b)
     ·intro y f;rcases yd.1 f with h | h
      ·exact qa6 (le_mx h) (le_mx ss)
      ·exact qa6 (le_mx h) (le_mx ss)
    simp[piece,cut,a,b,e]
   ·by_cases d:κ=5
    ·subst d;have g:∀s:List Int,s≠[]->cut 5 s=s.take 5:=fun s a=>by simp[cut,piece,a,Function.comp_def]
     rw[g s a,g t b];have e:∀u:List Int,u≠[]->piece 5 u=(u.take 5).map (fun n=>((5:Int),n)):=fun u i=>by simp[piece,i]
     rw[e _ (by simp[a]),e _ (by simp[a])]
     congr 1
     rw[List.take_append,List.take_append,qbl,qbl,qn]
     congr 2
     omega
    ·have e:mn (s++t)=mn ([mn s]++[mn t]):=by
      refine mn_eq ?_ ?_
      ·rcases qi.1 (kV (s:=[mn s]++[mn t]) ss)with h | h
       ·rw[h];exact qa3 _ (kV a)
       ·rw[qs.1 h];exact qbt _ (kV b)
      ·intro y f;rcases yd.1 f with h | h
       ·exact qa6 (mn_le ss) (mn_le h)
       ·exact qa6 (mn_le ss) (mn_le h)
     simp[piece,cut,a,b,c,d,e]
theorem pr(h:sel 6 l=[]):normS l=(pieces (sel 1 l) (sel 2 l) (sel 3 l) (sel 4 l) (sel 5 l)).flatten:=if_pos h
theorem fX(h:sel 6 l≠[]):normS l=[(6,0)]:=if_neg h
theorem mw:sel 6 [((6:Int),(0:Int))]=[0]:=rfl
theorem pc(a b:List Stp):normS (normS a++normS b)=normS (a++b):=by
 by_cases c:sel 6 a=[]
 ·by_cases hb:sel 6 b=[]
  ·have h:sel 6 (normS a++normS b)=[]:=by rw[fa,mz c 6 ss,mz hb 6 ss];rfl
   have f:sel 6 (a++b)=[]:=by rw[fa,c,hb];rfl
   have e:∀κ,(κ=1\/κ=2\/κ=3\/κ=4\/κ=5\/κ=6)->κ≠6->piece κ (sel κ (normS a++normS b))=piece κ (sel κ (a++b)):=fun κ g d=>by
    rw[fa,fa,mz c κ g,mz hb κ g,if_neg d,if_neg d,AA]
   rw[pr h,pr f,pieces,pieces,e 1 ss dd,e 2 ss dd,e 3 ss dd,e 4 ss dd,e 5 ss dd]
  ·rw[fX hb,fX (l:=normS a++[(6,0)]) (by rw[fa,mw];simp),fX (l:=a++b) (by rw[fa];simp[hb])]
 ·rw[fX c,fX (l:=[(6,0)]++normS b) (by rw[fa,mw];simp),fX (l:=a++b) (by rw[fa];simp[c])]
def behind(a:List Stp):List (List Stp):=[a,[(6,0)],[],[(5,0)],[(5,0),(5,0)],[(5,0),(5,0),(5,0)],[(5,0),(5,0),(5,0),(5,0)],[(5,0),(5,0),(5,0),(5,0),(5,0)]]
theorem sC(κ:Int)(n:Nat):sel κ (List.replicate n ((5:Int),(0:Int)))=if κ=5 then List.replicate n 0 else []:=by
 unfold sel;split
 ·rename_i h;subst h;rw[qd2.2 (fun t a=>by rw[qdd a];simp)];simp
 ·rename_i h;rw[qdl.2 (fun t a=>by rw[qdd a];simp;exact fun e=>h e.symm)];rfl
theorem CI(n:Nat):normS (List.replicate n ((5:Int),(0:Int)))=List.replicate (min n 5) (5,0):=by
 rw[pr (by rw[sC];rfl)]
 have e:piece 5 (List.replicate n 0)=List.replicate (min n 5) (5,0):=by
  cases n with
  |zero=>rfl
  |succ n=>
   have:¬List.replicate (n+1) (0:Int)=[]:=by simp
   have a:piece 5 (List.replicate (n+1) 0)=((List.replicate (n+1) (0:Int)).take 5).map (fun m=>((5:Int),m)):=by rw[piece,if_neg this];rfl
   rw[a,List.take_replicate,List.map_replicate,Nat.min_comm]
 simp only[sC,pieces];simp only[show¬((1:Int)=5)by decide,show¬((2:Int)=5)by decide,show¬((3:Int)=5)by decide,show¬((4:Int)=5)by decide,if_false,if_true,e];simp[piece]
theorem tY{B:Nat}{caps:Nat->Nat}{t:List UInt8}{n a:List Int}(b:n.length=a.length):∀(j:Nat) (L:List Ln) (i:Nat),L[i]? =some (t,n)->bI B caps j (L.set i (t,a))=bI B caps j L
 |j,y::r,0,h=>by
  simp at h;subst h;rw[qa0,bI,bI]
  congr 2
  show[nA B j (caps j) a]=[nA B j (caps j) n];cases n<;>cases a<;>simp_all[nA]
 |j,y::r,i+1,h=>by
  rw[qc3,bI,bI,tY b (j+1) r i (by simpa using h)]
variable {n:List Int}{L:List Ln}{t:List UInt8}{caps:Nat->Nat}
theorem uw{B:Nat}{a:List Int}(b:n.length=a.length)(h:L[i]? =some (t,n)):bF B caps c (L.set i (t,a))=bF B caps c L:=by
 unfold bF;rw[tY b 0 L i h];cases L with
 |nil=>simp at h
 |cons x r=>cases i<;>rfl
theorem w9{k:Nat}:(L.map (·.2)).getD k []=((L[k]?).map (·.2)).getD []:=by
 rw[yp,qu]
theorem B1{d:List Int}(o:n.length=d.length)(h:L[i]? =some (t,n))(f:n≠[]):
  famE caps (L.set i (t,d))=.fam L.length (fun k=>!((L.map (·.2)).getD k []).isEmpty) (fun k=>if k=i then .arr 3 1 (d.map encI) (caps i)else .arr 3 1 (((L.map (·.2)).getD k []).map encI) (caps k)):=by
 have m:i < L.length:=(qh.1 h).1
 have g:∀k,((L.set i (t,d)).map (·.2)).getD k []=if k=i then d else(L.map (·.2)).getD k []:=by
  intro k;rw[w9,w9,qbf];by_cases c:i=k
  ·subst c;rw[if_pos rfl,if_pos m,if_pos rfl];rfl
  ·rw[if_neg c,if_neg (fun e=>c e.symm)]
 unfold famE
 have j:(fun k=>!(((L.set i (t,d)).map (·.2)).getD k []).isEmpty)=(fun k=>!((L.map (·.2)).getD k []).isEmpty):=by
  funext k
  rw[g];by_cases c:k=i
  ·subst c;rw[if_pos rfl,iN caps h];cases n with
   |nil=>exact absurd rfl f
   |cons a r=>cases d with
    |nil=>simp at o
    |cons b r'=>rfl
  ·rw[if_neg c]
 have l:(fun k=>SB.arr 3 1 ((((L.set i (t,d)).map (·.2)).getD k []).map encI) (caps k))=(fun k=>if k=i then .arr 3 1 (d.map encI) (caps i)else .arr 3 1 (((L.map (·.2)).getD k []).map encI) (caps k)):=by
  funext k
  rw[g];by_cases c:k=i
  ·subst c;rw[if_pos rfl,if_pos rfl]
  ·rw[if_neg c,if_neg c]
 rw[qbp,j,l]
theorem ybu{c:List Int}(d:n.length=c.length)(h:L[i]? =some (t,n))(b:n≠[]){a:List (List SA)}(e:a=c.map encI):
  subE (some (.fam L.length (fun k=>!((L.map (·.2)).getD k []).isEmpty) (fun k=>if k=i then .arr 3 1 a (caps i)else .arr 3 1 (((L.map (·.2)).getD k []).map encI) (caps k)))) ((famE caps (L.set i (t,c))).ren μ):=by
 subst e;rw[ma,B1 d h b];cases L with
 |nil=>simp at h
 |cons x r=>exact⟨rfl,rfl,rfl⟩
variable {α:Type}
theorem pQ{L:List α}{x:α}(h:L[i]? =some x):L.set i x=L:=by
 apply qbe;intro k;rw[qbf];by_cases a:i=k
 ·subst a;rw[if_pos rfl,if_pos (qh.1 h).1,h]
 ·rw[if_neg a]
def stepK(F:Fz)(c:Nat)(caps:Nat->Nat)(L:List Ln):Out->Fz->List (Nat×Ent)->Nat->Prop:=fun o a b n0=>a=F/\n0=3/\o=.ret (.tup [])/\b=[(1,bF 2 caps c L),(2,famE caps L)]
def limN(a:Int):List Int->List Int
 |[]=>[]
 |x::r=>(if x>a then 0 else x)::r
theorem Cr(F:Fz)(L:List Ln)(i c:Nat)(caps:Nat->Nat)(t:List UInt8)(x a:Int)(r:List Int)(h:L[i]? =some (t,x::r)):
  Ct prog 193 [.va (.ptr ⟨1,0,i,2,0⟩),.va (.int .i64 a)] F [(1,bF 2 caps c L),(2,famE caps L)] 3
   (stepK F c caps (L.set i (t,limN a (x::r)))):=by
 have b:=gO 2 caps 0 L i _ h;rw[qz]at b;have m:i < L.length:=(qh.1 h).1;have d:=iN caps h;rcases L with _ | ⟨a0,ar⟩
 ·exact absurd m ss
 have p:((x::r).length=(limN a (x::r)).length):=rfl;have l:=uw (B:=2) (caps:=caps) (c:=c) p h;have j:∀μ:Mu,(∀k,μ 2 k=(2,k))->subE (some (bF 2 caps c (a0::ar))) ((bF 2 caps c ((a0::ar).set i (t,limN a (x::r)))).ren μ):=fun μ u=>by rw[l];exact er u
 have n:decide (a < x)=false->∀μ:Mu,subE (some (famE caps (a0::ar))) ((famE caps ((a0::ar).set i (t,limN a (x::r)))).ren μ):=fun g μ=>by
  have s:(a0::ar).set i (t,limN a (x::r))=a0::ar:=by rw[limN,if_neg (oe g)];exact pQ h
  rw[s];exact dX
 have q:decide (a < x)=true->(List.map encI ((List.map (fun x:Ln=>x.snd) (a0::ar)).getD i [])).set 0 [.int .i64 0]=(limN a (x::r)).map encI:=fun g=>by
  rw[d,limN,if_pos (od g)];rfl
 refine ctS func193 ?_;refine⟨rfl,_,b,rfl,⟨by simp,by show(0:Int) < ((r.length+1:Nat):Int);omega⟩,?_⟩;conv=>whnf
 have e:(!((List.map (fun x:Ln=>x.snd) (a0::ar)).getD i []).isEmpty)=true:=by rw[d];rfl
 have f:(List.map encI ((List.map (fun x:Ln=>x.snd) (a0::ar)).getD i []))[0]? =some [.int .i64 x]:=by rw[d];rfl
 have o:(List.map encI ((List.map (fun x:Ln=>x.snd) (a0::ar)).getD i []))=encI x::r.map encI:=by rw[d];rfl
 refine⟨⟨m,e⟩,_,f,?_⟩;refine br (fun g=>?_) (fun g=>?_)
 ·refine⟨rfl,_,b,rfl,⟨by simp,by show(0:Int) < ((r.length+1:Nat):Int);omega⟩,⟨m,e⟩,_,f,?_⟩;refine clean [] (.ret (.tup [])) F [(1,bF 2 caps c ((a0::ar).set i (t,limN a (x::r)))),(2,famE caps ((a0::ar).set i (t,limN a (x::r))))] 3 ⟨Fz.r F,rfl,rfl,rfl,rfl⟩ (aO _) rfl rfl (by simp[Out.below,SV.below]) ⟨cV oo _ _ _,cW _ _ _,tv⟩ ⟨Fz.r F,?_,?_,tv⟩
  ·exact j _ (fun k=>rfl)
  ·refine ybu p h ss ?_;exact q g
 ·refine clean [] (.ret (.tup [])) F [(1,bF 2 caps c ((a0::ar).set i (t,limN a (x::r)))),(2,famE caps ((a0::ar).set i (t,limN a (x::r))))] 3 ⟨Fz.r F,rfl,rfl,rfl,rfl⟩ (aO _) rfl rfl (by simp[Out.below,SV.below]) ⟨cV oo _ _ _,cW _ _ _,tv⟩ ⟨Fz.r F,?_,?_,tv⟩
  ·exact j _ (fun k=>rfl)
  ·exact n g _
def rndN(a:Int):List Int->List Int
 |x::y::z::r=>x::y::(z - z.tmod a)::r
 |l=>l
theorem yah(F:Fz)(L:List Ln)(i c:Nat)(caps:Nat->Nat)(t:List UInt8)(x y z a:Int)(r:List Int)(h:L[i]? =some (t,x::y::z::r))(p:0 < a)(I:-1000000000000000000<=z)(E:z<=1000000000000000000)(u:a<=1000000000000000000):
  Ct prog 191 [.va (.ptr ⟨1,0,i,2,0⟩),.va (.int .i64 a)] F [(1,bF 2 caps c L),(2,famE caps L)] 3
   (stepK F c caps (L.set i (t,rndN a (x::y::z::r)))):=by
 have b:=gO 2 caps 0 L i _ h;rw[qz]at b;have j:i < L.length:=(qh.1 h).1;have e:=iN caps h;rcases L with _ | ⟨a0,ar⟩
 ·exact absurd j ss
 have q:((x::y::z::r).length=(rndN a (x::y::z::r)).length):=rfl;have l:=uw (B:=2) (caps:=caps) (c:=c) q h;have m:∀μ:Mu,(∀k,μ 2 k=(2,k))->subE (some (bF 2 caps c (a0::ar))) ((bF 2 caps c ((a0::ar).set i (t,rndN a (x::y::z::r)))).ren μ):=fun μ G=>by rw[l];exact er G
 have A:z.tmod a < a:=qcd _ p
 have w:-a < z.tmod a:=by
  have h1:(-z).tmod a < a:=qcd _ p;rw[qd7]at h1;omega
 have g:IntKind.i64.wrap (z - z.tmod a)=z - z.tmod a:=aF oo oo;have o:IntKind.i64.wrap (z - IntKind.i64.wrap (z.tmod a))=z - z.tmod a:=by rw[aF (n:=z.tmod a) oo oo,g]
 have s:∀v,v=z - z.tmod a->(List.map encI ((List.map (fun x:Ln=>x.snd) (a0::ar)).getD i [])).set 2 [.int .i64 v]=(rndN a (x::y::z::r)).map encI:=by
  intro v D;subst D;rw[e,rndN];rfl
 have d:(!((List.map (fun x:Ln=>x.snd) (a0::ar)).getD i []).isEmpty)=true:=by rw[e];rfl
 have f:(List.map encI ((List.map (fun x:Ln=>x.snd) (a0::ar)).getD i []))[2]? =some [.int .i64 z]:=by rw[e];rfl
 refine ctS func191 ?_;refine dwS (lk [0,1,2,3,4,5,6,7,8,9,10,11,12,13,14,15] (.last 16 .done)) [1,2] ?_;refine⟨rfl,rfl,_,b,rfl,⟨by simp,by show(2:Int) < ((r.length+1+1+1:Nat):Int);omega⟩,rfl,⟨j,d⟩,_,f,rfl,rfl,_,b,rfl,⟨by simp,by show(2:Int) < ((r.length+1+1+1:Nat):Int);omega⟩,rfl,⟨j,d⟩,_,f,oo,rfl,⟨by simp,by show(2:Int) < ((r.length+1+1+1:Nat):Int);omega⟩,⟨j,d⟩,_,f,?_⟩;refine clean [] (.ret (.tup [])) F [(1,bF 2 caps c ((a0::ar).set i (t,rndN a (x::y::z::r)))),(2,famE caps ((a0::ar).set i (t,rndN a (x::y::z::r))))] 3 ⟨Fz.r F,rfl,rfl,rfl,rfl⟩ (aO _) rfl rfl (by simp[Out.below,SV.below]) ⟨cV oo _ _ _,cW _ _ _,tv⟩ ⟨Fz.r F,?_,?_,tv⟩
 ·exact m _ (fun k=>rfl)
 ·refine ybu q h ss ?_
  first
  |exact s _ g
  |exact s _ o
def valE(v:Val)(i c:Nat):Ent:=.one (.cells 201 [.lit v.lost,gA 2 i c v.lines,.int .i64 v.w,.int .i64 v.h,.str v.bits])
def lnE(B:Nat)(caps:Nat->Nat)(c:Nat):List Ln->Ent
 |[]=>.gone
 |x::r=>bF B caps c (x::r)
def fmE(caps:Nat->Nat):List Ln->Ent
 |[]=>.gone
 |x::r=>famE caps (x::r)
theorem Ag{n B:Nat}(h:B < n)(caps:Nat->Nat)(c:Nat)(l:List Ln):(lnE B caps c l).below n:=by
 cases l with
 |nil=>trivial
 |cons x r=>exact cV h _ _ _
theorem zK(n:Nat)(caps:Nat->Nat)(l:List Ln):(fmE caps l).below n:=by
 cases l with
 |nil=>trivial
 |cons x r=>exact cW _ _ _
def valM(v:Val)(c:Nat)(caps:Nat->Nat):List (Nat×Ent):=[(1,valE v 2 c),(2,lnE 3 caps c v.lines),(3,fmE caps v.lines)]
def stepV(F:Fz)(v:Val):Out->Fz->List (Nat×Ent)->Nat->Prop:=fun o a b n0=>a=F/\n0=4/\o=.ret (.tup [])/\∃c caps,b=valM v c caps
theorem fE{n:Nat}(h:i < n)(sz c:Nat)(l:List α):(gA sz i c l).below n:=by
 cases l with
 |nil=>trivial
 |cons x r=>exact .inr h
theorem gK{v:Val}{n:Nat}(h:i < n)(c:Nat):(valE v i c).below n:=by
 show∀a∈_,SA.below n a;intro a b;simp only[qi,qp,or_false]at b;rcases b with rfl | rfl | rfl | rfl | rfl
 ·trivial
 ·exact fE h _ _ _
 ·trivial
 ·trivial
 ·trivial
theorem iY(v:Val)(c:Nat)(caps:Nat->Nat):bH 4 (valM v c caps):=⟨gK oo _,Ag oo _ _ _,zK _ _ _,tv⟩
def loseV:Val:=⟨true,[],0,0,[]⟩
theorem yds(F:Fz)(v:Val)(a:Int)(c:Nat)(caps:Nat->Nat):
  Ct prog 195 [.va (.ptr ⟨1,0,0,0,0⟩),.va (.int .i64 a)] F (valM v c caps) 4 (stepV F loseV):=by
 refine ctS func195 ?_;refine clean [] (.ret (.tup [])) F (valM loseV 0 (fun _=>0)) 4 ⟨Fz.r F,rfl,rfl,rfl,0,fun _=>0,rfl⟩ (aO _) rfl rfl (by simp[Out.below,SV.below]) (iY _ _ _) ⟨Fz.r F,rfl,tv⟩
def upTo(f:Ln->Ln)(L:List Ln)(k:Nat):List Ln:=(L.take k).map f++L.drop k
theorem ybb(f:Ln->Ln)(L:List Ln)(k:Nat):(upTo f L k).length=L.length:=by
 unfold upTo;simp only[qb,qa,qn,yl];omega
theorem yba(f:Ln->Ln){k:Nat}{x:Ln}(h:L[k]? =some x):(upTo f L k)[k]? =some x:=by
 have a:=(qh.1 h).1;unfold upTo;rw[jq (by simp only[qa,qn];omega),qab];have:k+(k - ((L.take k).map f).length)=k:=by simp only[qa,qn];omega
 rw[this,h]
theorem ybc(f:Ln->Ln){k:Nat}{x:Ln}(h:L[k]? =some x):(upTo f L k).set k (f x)=upTo f L (k+1):=by
 obtain⟨a,b⟩:=qh.1 h;unfold upTo;rw[qbu _ _ (by simp only[qa,qn];omega)];have e:k - ((L.take k).map f).length=0:=by simp only[qa,qn];omega
 rw[e,ji a,qa0,qe a,qq,b];simp
theorem ya9(f:Ln->Ln)(L:List Ln):upTo f L L.length=L.map f:=by
 unfold upTo;simp
theorem oz{τ:Mu}{B a B':Nat}{l b:List Ln}(f:∀k,τ B k=(B',k))(d:∀k,μ a k=(B',k))(e:l=b):subE (some ((bF B caps c l).ren τ)) ((bF a caps c b).ren μ):=by
 subst e;exact⟨rfl,congrArg (fun L=>SB.arr 259 2 L c) ((ix (m:=l.length) (fun k _=>⟨f k,rfl⟩) 0 l oo).trans (ix (m:=l.length) (fun k _=>⟨d k,rfl⟩) 0 l oo).symm)⟩
theorem o6{τ:Mu}{l a:List Ln}(e:l=a):subE (some ((famE caps l).ren τ)) ((famE caps a).ren μ):=by
 subst e;rw[ma];exact dX
theorem tJ{a B':Nat}{l b:List Ln}(d:∀k,μ a k=(B',k))(e:l=b):subE (some (bF B' caps c l)) ((bF a caps c b).ren μ):=by
 subst e;exact er d
theorem vG{l a:List Ln}(e:l=a):subE (some (famE caps l)) ((famE caps a).ren μ):=by
 subst e;exact dX
def ybk(g:Nat)(F:Fz)(c:Nat)(caps:Nat->Nat)(a:Int)(f:Ln->Ln)(x:Ln):Prop:=
 ∀(L:List Ln) (i:Nat),L[i]? =some x->Ct prog g [.va (.ptr ⟨1,0,i,2,0⟩),.va (.int .i64 a)] F [(1,bF 2 caps c L),(2,famE caps L)] 3 (stepK F c caps (L.set i (f x)))
theorem BT(F:Fz)(g b:Nat)(f:Ln->Ln)(w h:Int)(bits:List UInt8)(d:Bool)(L:List Ln)(a:Int)(c:Nat)(caps:Nat->Nat)(hb:F b=some (eF g))(I:L≠[])(V:L.length<=1000000)(U:∀x∈L,ybk g F c caps a f x):
  Ct prog 246 [.va (.ptr ⟨1,0,0,0,0⟩),.va (.int .i64 a),.va (.ptr (fp b))] F (valM ⟨d,L,w,h,bits⟩ c caps) 4 (stepV F ⟨d,L.map f,w,h,bits⟩):=by
 rcases L with _ | ⟨a0,ar⟩
 ·exact absurd rfl I
 have W:ar.length+1<=1000000:=V;refine ctS func246 ?_;conv=>whnf
 refine aI hΘ (X:={ x:Nat×Ln×List Ln // x.1<=ar.length+1/\x.2.1::x.2.2=upTo f (a0::ar) x.1 }) (fun x=>[(11,.va (.int .i64 x.1.1))]) (5::jr 12 12 [])
  (fun x=>[(0,.frz F),(1,valE ⟨d,a0::ar,w,h,bits⟩ 2 c),(2,bF 3 caps c (x.1.2.1::x.1.2.2)),(3,famE caps (x.1.2.1::x.1.2.2))]) 4 (fun x=>ar.length+1 - x.1.1) ⟨(0,a0,ar),by simp,by simp[upTo]⟩
  (fun E G=>leI [] E G rfl ⟨tv,gK oo _,cV oo _ _ _,cW _ _ _,tv⟩ ⟨rfl,tv⟩ ⟨Fz.r F,rfl,er (fun k=>rfl),dX (μ:=sig []) (caps:=caps) (l:=a0::ar),tv⟩) ?_
 rintro⟨⟨k,m,p⟩,R,e⟩ E G;replace R:k<=ar.length+1:=R;replace e:m::p=upTo f (a0::ar) k:=e;refine br (fun y=>?_) (fun y=>?_)
 ·have D:k < ar.length+1:=by
   have Q:(k:Int) < ((ar.length+1:Nat):Int):=od y;omega
  clear y;have i:∃x,(a0::ar)[k]? =some x:=⟨_,qc D⟩
  obtain⟨x,i⟩:=i;have O:=yx i;have K:(m::p)[k]? =some x:=by rw[e];exact yba f i
  have B:(m::p).set k (f x)=upTo f (a0::ar) (k+1):=by rw[e];exact ybc f i
  have M:(m::p)[0+k]? =some x:=by rw[qz];exact K
  have q:=U x O (m::p) (0+k) M
  have j:∃s u,s::u=upTo f (a0::ar) (k+1):=by
   have o:=ybb f (a0::ar) (k+1);cases Z:upTo f (a0::ar) (k+1)with
   |nil=>rw[Z]at o;simp at o
   |cons s u=>exact⟨s,u,rfl⟩
  obtain⟨s,u,j⟩:=j;have A:(m::p).set (0+k) (f x)=s::u:=by rw[qz,B,j]
  refine dwS (lk [0,1,2,3,4,5,6,7] (.alt 8 .done .nil)) [0,1] ?_;conv=>whnf
  repeat' ((conv=>whnf);first
   |refine⟨rfl,?_⟩
   |refine⟨Fz.r _,rfl,?_⟩
   |refine⟨Fz.r _,rfl,rfl,?_⟩
   |refine⟨⟨by simp,by simp⟩,?_⟩
   |fail)
  refine⟨_,hb,rfl,rfl,⟨by simp,by show(k:Int) < ((ar.length+1:Nat):Int);omega⟩,?_⟩;refine useS q [(1,2),(2,3)] ⟨cV oo _ _ _,cW _ _ _,tv⟩ ⟨er (fun k=>rfl),dX (caps:=caps) (l:=m::p),tv⟩ ?_;rintro S F0 Q n1 Y ⟨rfl,rfl,rfl,rfl⟩;refine⟨Fz.r _,rfl,rfl,?_⟩
  exact⟨⟨(k+1,s,u),by show k+1<=ar.length+1;omega,j⟩,by show ar.length+1 - (k+1) < ar.length+1 - k;omega,
   leR [] E G rfl ⟨tv,gK oo _,cV oo _ _ _,cW _ _ _,tv⟩ ⟨cnt oo,tv⟩
   ⟨Fz.r _,rfl,oz (fun k=>rfl) (fun k=>rfl) A,o6 A,tv⟩⟩
 ·have D:k=ar.length+1:=by
   have Q:¬(k:Int) < ((ar.length+1:Nat):Int):=oe y;omega
  clear y;have n:m::p=(a0::ar).map f:=by rw[e,D];exact ya9 f (a0::ar)
  have T:valE ⟨d,a0::ar,w,h,bits⟩ 2 c=valE ⟨d,f a0::ar.map f,w,h,bits⟩ 2 c:=by
   simp[valE,gA]
  have J:∀μ:Mu,μ 2 0=(2,0)->subE (some (valE ⟨d,a0::ar,w,h,bits⟩ 2 c)) ((valE ⟨d,f a0::ar.map f,w,h,bits⟩ 2 c).ren μ):=by
   intro μ hμ;rw[<-T];show _=_;simp[SB.ren,gA,SA.ren,hμ]
  refine clean [] (.ret (.tup [])) F (valM ⟨d,f a0::ar.map f,w,h,bits⟩ c caps) 4 ⟨Fz.r F,rfl,rfl,rfl,c,caps,rfl⟩ (aO _) rfl rfl (by simp[Out.below,SV.below]) (iY _ _ _) ⟨Fz.r F,?_,?_,?_,tv⟩
  ·exact J _ rfl
  ·exact tJ (fun k=>rfl) n
  ·exact vG n
theorem tu{B:Nat}{caps:Nat->Nat}{t':List UInt8}{n:List Int}:∀(j:Nat) (L:List Ln) (i:Nat),bI B caps j (L.set i (t',n))=(bI B caps j L).set i [.str t',nA B (j+i) (caps (j+i)) n]
 |j,[],i=>by simp[bI]
 |j,y::r,0=>by
  rw[qa0,bI,bI,qa0];rfl
 |j,y::r,i+1=>by
  rw[qc3,bI,bI,tu (j+1) r i,qc3];have:j+1+i=j+(i+1):=by omega
  rw[this]
theorem o5{t':List UInt8}(h:L[i]? =some (t,n)):famE caps (L.set i (t',n))=famE caps L:=by
 have a:(L.set i (t',n)).map (·.2)=L.map (·.2):=by
  rw[qb4];exact pQ (by rw[qu,h];rfl)
 unfold famE;rw[qbp,a]
theorem vq{t':List UInt8}{a:List (List SA)}(b:L≠[])(g:a=(bI 2 caps 0 L).set i [.str t',nA 2 i (caps i) n])(h:∀k,μ 2 k=(2,k)):
  subE (some (.opt true (.arr 259 2 a c))) ((bF 2 caps c (L.set i (t',n))).ren μ):=by
 have e:=tu (B:=2) (caps:=caps) (t':=t') (n:=n) 0 L i;rw[qz]at e;rw[g,<-e];have d:=er (B:=2) (B':=2) (caps:=caps) (c:=c) (l:=L.set i (t',n)) h
 have f:(!(L.set i (t',n)).isEmpty)=true:=by
  cases L with
  |nil=>exact absurd rfl b
  |cons x r=>cases i<;>rfl
 rw[bF,f]at d;rw[bF,f];exact d
def LFun(a:List UInt8->List UInt8):Prop:=∀(F:Fz) (s:List UInt8),s.length<=70000->(∀b∈s,b.toNat < 128)->Fo prog F 247 [.va (.str s)] (fun o c=>F=c/\o=.ret (.va (.str (a s))))
theorem yc9{e:List UInt8->List UInt8}(j:LFun e)(F:Fz)(L:List Ln)(i c:Nat)(caps:Nat->Nat)(t:List UInt8)(n:List Int)(a:Int)(h:L[i]? =some (t,n))(m:t.length<=70000)(f:∀b∈t,b.toNat < 128):
  Ct prog 188 [.va (.ptr ⟨1,0,i,2,0⟩),.va (.int .i64 a)] F [(1,bF 2 caps c L),(2,famE caps L)] 3
   (stepK F c caps (L.set i (e t,n))):=by
 have d:=gO 2 caps 0 L i _ h;rw[qz]at d;have l:i < L.length:=(qh.1 h).1;rcases L with _ | ⟨a0,ar⟩
 ·exact absurd l ss
 have g:∀μ:Mu,subE (some (famE caps (a0::ar))) ((famE caps ((a0::ar).set i (e t,n))).ren μ):=fun μ=>by
  rw[o5 h];exact dX
 refine ctS func188 ?_;refine⟨rfl,_,d,?_⟩;refine useFt (j F t m f) ?_;rintro _ _ o ⟨rfl,rfl⟩;refine⟨rfl,_,d,?_⟩;refine clean [] (.ret (.tup [])) F [(1,bF 2 caps c ((a0::ar).set i (e t,n))),(2,famE caps ((a0::ar).set i (e t,n)))] 3 ⟨Fz.r F,rfl,rfl,rfl,rfl⟩ (aO _) rfl rfl (by simp[Out.below,SV.below]) ⟨cV oo _ _ _,cW _ _ _,tv⟩ ⟨Fz.r F,?_,?_,tv⟩
 ·exact vq (t':=e t) (n:=n) ss rfl (fun k=>rfl)
 ·exact g _
def hasD:List UInt8->Bool
 |a::b::r=>(a==32&&b==32)||hasD (b::r)
 |_=>false
def repD:List UInt8->List UInt8
 |a::b::r=>if a==32&&b==32 then 32::repD r else a::repD (b::r)
 |l=>l
theorem m9:∀l:List UInt8,(repD l).length<=l.length
 |[]=>by simp[repD]
 |[a]=>by simp[repD]
 |a::b::r=>by
  rw[repD];have h1:=m9 r;have c:=m9 (b::r);simp only[qf]at c;split<;>simp only[qf]<;>omega
theorem iX:∀l:List UInt8,hasD l=true->(repD l).length < l.length
 |[],h=>by simp[hasD]at h
 |[a],h=>by simp[hasD]at h
 |a::b::r,h=>by
  rw[repD];by_cases c:(a==32&&b==32)=true
  ·rw[if_pos c];have h1:=m9 r;simp only[qf];omega
  ·rw[if_neg c];rw[hasD,qai]at h;have d:=iX (b::r) (h.resolve_left c);simp only[qf]at d ⊢;omega
def spS:Nat->List UInt8->List UInt8
 |0,s=>s
 |f+1,s=>if hasD s then spS f (repD s)else s
theorem pR:∀(f:Nat) (s:List UInt8),s.length<=f->spS f s=spS s.length s
 |0,s,h=>by
  have:s.length=0:=by omega
  rw[this]
 |f+1,s,h=>by
  rw[spS];by_cases a:hasD s=true
  ·rw[if_pos a];have d:=iX s a;rw[pR f (repD s) oo];obtain⟨m,b⟩:∃m,s.length=m+1:=⟨s.length - 1,by omega⟩
   rw[b,spS,if_pos a];by_cases c:m < f+1
   ·exact(pR m (repD s) oo).symm
   ·omega
  ·rw[if_neg a];cases e:s.length with
   |zero=>rfl
   |succ m=>rw[spS,if_neg a]
theorem ya2{s:List UInt8}(a:hasD s=true):spS s.length s=spS (repD s).length (repD s):=by
 have c:=iX s a;obtain⟨m,b⟩:∃m,s.length=m+1:=⟨s.length - 1,by omega⟩
 rw[b,spS,if_pos a,pR m (repD s) oo]
theorem sD{s:List UInt8}(a:hasD s=false):spS s.length s=s:=by
 cases b:s.length with
 |zero=>rfl
 |succ m=>rw[spS,if_neg (by rw[a];simp)]
def MLF(F:Fz):Prop:=∃m,F 4=some (.cells 3 [.int .i64 m])
theorem MLF.mono{F b:Fz}(h:MLF F)(a:Fz.le F b):MLF b:=let⟨m,c⟩:=h;⟨m,a _ _ c⟩
def DFun:Prop:=∀(F:Fz) (s:List UInt8),MLF F->s.length<=70000->Fo prog F 248 [.va (.str s),.va (.str [32,32])] (fun o a=>F=a/\o=.ret (.va (.bool (hasD s))))
def AFun:Prop:=∀(F:Fz) (s:List UInt8),MLF F->s.length<=70000->Fo prog F 249 [.va (.str s),.va (.str [32,32]),.va (.str [32])] (fun o a=>F=a/\o=.ret (.va (.str (repD s))))
theorem Dn{L:List α}(h:L≠[]):∃a r,L=a::r:=by cases L with
 |nil=>exact absurd rfl h
 |cons a r=>exact⟨a,r,rfl⟩
theorem yg1{L:List α}(h:L≠[])(i:Nat)(x:α):L.set i x≠[]:=by
 cases L with
 |nil=>exact absurd rfl h
 |cons a r=>cases i<;>simp
theorem zJ{l a:List Ln}(e:famE caps l=famE caps a):subE (some (famE caps l)) ((famE caps a).ren μ):=by
 rw[e];exact dX
theorem A2(U:DFun)(T:AFun)(F:Fz)(Q:MLF F)(L:List Ln)(i c:Nat)(caps:Nat->Nat)(t:List UInt8)(n:List Int)(a:Int)(h:L[i]? =some (t,n))(Y:t.length<=70000):
  Ct prog 189 [.va (.ptr ⟨1,0,i,2,0⟩),.va (.int .i64 a)] F [(1,bF 2 caps c L),(2,famE caps L)] 3
   (stepK F c caps (L.set i (spS t.length t,n))):=by
 have R:i < L.length:=(qh.1 h).1;rcases L with _ | ⟨a0,ar⟩
 ·exact absurd R ss
 have K:a0::ar≠[]:=by simp
 have W:∀s,famE caps ((a0::ar).set i (s,n))=famE caps (a0::ar):=fun s=>o5 h
 have M:(a0::ar).set i (t,n)=a0::ar:=pQ h;have o:∀s O,((a0::ar).set i (s,n)).set i (O,n)=(a0::ar).set i (O,n):=fun s O=>List.set_set ..
 have y:∀s,((a0::ar).set i (s,n))[i]? =some (s,n):=fun s=>by rw[qbf,if_pos rfl,if_pos R]
 refine ctS func189 ?_;conv=>whnf
 refine aI hΘ (X:={ x:List UInt8×Ln×List Ln // x.2.1::x.2.2=(a0::ar).set i (x.1,n)/\x.1.length<=t.length/\spS x.1.length x.1=spS t.length t }) (fun _=>[]) (jr 4 13 [])
  (fun x=>[(0,.frz F),(1,bF 2 caps c (x.1.2.1::x.1.2.2)),(2,famE caps (x.1.2.1::x.1.2.2))]) 3 (fun x=>x.1.1.length) ⟨(t,a0,ar),M.symm,qj _,rfl⟩
  (fun E G=>leI [] E G rfl ⟨tv,cV oo _ _ _,cW _ _ _,tv⟩ trivial ⟨Fz.r F,er (fun k=>rfl),dX (μ:=sig []) (caps:=caps) (l:=a0::ar),tv⟩) ?_
 rintro⟨⟨s,m,p⟩,d,A,f⟩ E G;replace d:m::p=(a0::ar).set i (s,n):=d;replace A:s.length<=t.length:=A;replace f:spS s.length s=spS t.length t:=f;have h1:(m::p)[i]? =some (s,n):=by rw[d];exact y s
 have b:=gO 2 caps 0 (m::p) i _ h1;rw[qz]at b;have I:hasD s=true\/hasD s=false:=by cases hasD s<;>simp
 have e:∃q D,(a0::ar).set i (repD s,n)=q::D:=Dn (yg1 K _ _);obtain⟨q,D,e⟩:=e;have j:(m::p).set i (repD s,n)=q::D:=by rw[d,o,e]
 have w:famE caps (m::p)=famE caps (q::D):=by rw[<-j,o5 h1]
 refine⟨rfl,_,b,?_⟩;refine useFt (U F s Q oo) ?_;rintro _ _ Z ⟨rfl,rfl⟩;refine br (fun g=>?_) (fun g=>?_)
 ·have g:hasD s=true:=g;have J:=iX s g;have B:=ya2 g;refine⟨rfl,_,b,?_⟩;refine useFt (T F s Q oo) ?_;rintro _ _ l2 ⟨rfl,rfl⟩;refine⟨rfl,_,b,?_⟩
  refine⟨⟨(repD s,q,D),e.symm,by show(repD s).length<=t.length;omega,by show spS (repD s).length (repD s)=_;rw[<-B];exact f⟩,J,
   leR [] E G rfl ⟨tv,cV oo _ _ _,cW _ _ _,tv⟩ trivial ⟨Fz.r _,?_,zJ w,tv⟩⟩
  have S:=vq (caps:=caps) (c:=c) (t':=repD s) (n:=n) (L:=m::p) (i:=i) ss rfl (μ:=sig []) (fun k=>rfl);rw[j]at S;exact S
 ·have g:hasD s=false:=g;have V:s=spS t.length t:=by rw[<-f];exact(sD g).symm
  have u:m::p=(a0::ar).set i (spS t.length t,n):=by rw[d,<-V]
  refine clean [] (.ret (.tup [])) F [(1,bF 2 caps c ((a0::ar).set i (spS t.length t,n))),(2,famE caps ((a0::ar).set i (spS t.length t,n)))] 3 ⟨Fz.r F,rfl,rfl,rfl,rfl⟩ (aO _) rfl rfl (by simp[Out.below,SV.below]) ⟨cV oo _ _ _,cW _ _ _,tv⟩ ⟨Fz.r F,?_,?_,tv⟩
  ·exact tJ (fun k=>rfl) u
  ·exact vG u
theorem iO{w:Int}(b:0<=w/\w<=1000000):IntKind.i64.wrap ((IntKind.i64.wrap (w+1)).tdiv 2)=(w+1) / 2/\(IntKind.i64.wrap (w+1)).tdiv 2=(w+1) / 2:=by
 have h1:IntKind.i64.wrap (w+1)=w+1:=aF oo oo;have a:(w+1).tdiv 2=(w+1) / 2:=jo oo;rw[h1,a];exact⟨aF oo oo,rfl⟩
theorem C7(F:Fz)(w h:Int)(a:Int)(c:Nat)(caps:Nat->Nat)(f:0<=w/\w<=1000000)(hh:0<=h/\h<=1000000):
  Ct prog 194 [.va (.ptr ⟨1,0,0,0,0⟩),.va (.int .i64 a)] F (valM ⟨false,[],w,h,[]⟩ c caps) 4 (stepV F ⟨false,[],(w+1) / 2,(h+1) / 2,[]⟩):=by
 have e:∀d b,d=(w+1) / 2->b=(h+1) / 2->subE (some (valE ⟨false,[],d,b,[]⟩ 2 c)) ((valE ⟨false,[],(w+1) / 2,(h+1) / 2,[]⟩ 2 c).ren (sig [])):=by
  intro d b g i;subst g;subst i;rfl
 refine ctS func194 ?_;refine dwS (lk [0,1,2,3,4,5,6,7,8,9,10,11,12,13] .done) [1] ?_;conv=>whnf
 repeat' ((conv=>whnf);first
  |refine⟨rfl,?_⟩
  |refine⟨Fz.r _,rfl,?_⟩
  |refine⟨Fz.r _,rfl,rfl,?_⟩
  |refine⟨⟨by simp,by simp⟩,?_⟩
  |fail)
 refine⟨oo,?_⟩;conv=>whnf
 repeat' ((conv=>whnf);first
  |refine⟨rfl,?_⟩
  |refine⟨Fz.r _,rfl,?_⟩
  |refine⟨Fz.r _,rfl,rfl,?_⟩
  |refine⟨⟨by simp,by simp⟩,?_⟩
  |fail)
 refine⟨oo,?_⟩;conv=>whnf
 refine brd ss ?_;refine clean [] (.ret (.tup [])) F (valM ⟨false,[],(w+1) / 2,(h+1) / 2,[]⟩ c caps) 4 ⟨Fz.r F,rfl,rfl,rfl,c,caps,rfl⟩ (aO _) rfl rfl (by simp[Out.below,SV.below]) (iY _ _ _) ⟨Fz.r F,?_,tv⟩
 first
 |exact e _ _ (iO f).1 (iO hh).1
 |exact e _ _ (iO f).2 (iO hh).2
end Go.Proofs.YtfnkamphhpldcaaGreatDoor
namespace Go.Proofs.YtfnkamphhpldcaaGreatDoor
open Go Sx Tryz
def halB(w:Nat):Nat->List UInt8->List UInt8->List UInt8
 |_,[],o=>o
 |k,b::r,o=>halB w (k+1) r (if b=49 then o.set (k / w / 2*((w+1) / 2)+k % w / 2) 49 else o)
theorem pE(w:Nat):∀(l:List UInt8) (k:Nat) (o:List UInt8),(halB w k l o).length=o.length
 |[],_,_=>rfl
 |b::r,k,o=>by
  rw[halB,pE w r];split
  ·exact qbp
  ·rfl
theorem Cb{k w h:Nat}(a:k < w*h):k / w / 2*((w+1) / 2)+k % w / 2 < (w+1) / 2*((h+1) / 2):=by
 have d:0 < w:=by
  rcases qbo w with h0 | h0
  ·rw[h0,qdp]at a;omega
  ·exact h0
 have h1:k / w < h:=qb2 a;have e:k % w < w:=qa1 _ d;have b:k / w / 2+1<=(h+1) / 2:=by omega
 have f:k % w / 2 < (w+1) / 2:=by omega
 have c:(w+1) / 2*(k / w / 2+1)<=(w+1) / 2*((h+1) / 2):=qca _ b;rw[qea,qda]at c;rw[qae (k / w / 2)];omega
