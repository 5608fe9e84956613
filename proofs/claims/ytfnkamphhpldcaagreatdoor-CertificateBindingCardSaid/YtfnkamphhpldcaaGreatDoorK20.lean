import Derived.Test.YtfnkamphhpldcaaGreatDoorK19
import Derived.Test.YtfnkamphhpldcaaGreatDoorK15
set_option maxHeartbeats 64000000
namespace Go.Proofs.YtfnkamphhpldcaaGreatDoor
open Go Sx
set_option maxRecDepth 100000
theorem ze9{τ μ:Mu}{a b j i i' c:Nat}{l:List UInt8}(h:τ a 0=(j,0))(d:μ b 0=(j,0)):subE (some ((outC i' a c l).ren τ)) ((outC i b c l).ren μ):=by
 rw[zkk h,zkk d];exact rfl
theorem zzs{p:Int}{x:Ln}(h:x.2.length<=1000):(lineW p x).length<=74545:=by
 unfold lineW;have h1:=zdm x.1;have a:=za4 x.2;rw[qb];split
 ·omega
 ·simp;omega
theorem zjh{p:Int}:∀(l:List Ln),(∀x∈l,x.2.length<=1000)->(l.map (lineW p)).flatten.length<=74545*l.length
 |[],_=>by simp
 |x::r,h=>by
  have h1:=zzs (p:=p) (h x (by simp));have b:=zjh (p:=p) r (fun y a=>h y (by simp[a]));simp only[q8,jy,qb,qf];omega
theorem zpp(V:PFun)(F:Fz)(L:List Ln)(w h:Int)(bits:List UInt8)(c:Nat)(caps:Nat->Nat)(p:Int)(hp:¬6<=p)(ac:L≠[])(hl:L.length<=1000)(hx:∀x∈L,x.1.length<=70000/\x.2.length<=1000):
  Ct Tryz.prog 131 [valV ⟨false,L,w,h,bits⟩ 1 c,.va (.int .i64 p)] F (valH ⟨false,L,w,h,bits⟩ c caps) 3 (fun o _ I n0=>n0=3/\o=.ret (.va (.str (zbv p ⟨false,L,w,h,bits⟩)))/\I=valH ⟨false,L,w,h,bits⟩ c caps):=by
 have hW:zbv p ⟨false,L,w,h,bits⟩=zae [(L.length:Int)]++(L.map (lineW p)).flatten:=by rw[zbv,if_neg (by simp),if_neg hp]
 rcases L with _ | ⟨a0,ar⟩
 ·exact absurd rfl ac
 refine ct_of hΘ Tryz.func131 rfl (by decide) _ _ rfl rfl rfl ?_;refine brj hp ?_;refine zaz 5 (fun _=>.arr 3 1 ([((ar.length+1:Nat):Int)].map encI) 1) rfl rfl rfl (fun _ _=>rfl) (fun _ _=>SB.bB_ok rfl) ?_;intro b1 F1 l1 aa;have Z:=zls V F1 _ [((ar.length+1:Nat):Int)] [] 0 (Sl.new (l:=[((ar.length+1:Nat):Int)]) (cap:=1) (aa 0 rfl)) (by simp) (by simp);refine use Z [(1,4),(2,5)] rfl ⟨⟨rfl,rfl,rfl,.inr ⟨rfl,rfl,rfl,rfl⟩⟩,rfl,tv⟩ rfl ⟨zbe (by omega) _ _ _,zai zab _ _ _ _ _,tv⟩ (by simp[SV.below,SA.below]) ⟨rfl,rfl,tv⟩ ?_;rintro g T I n0 B ⟨rfl,rfl,rfl,c1,rfl⟩;conv=>whnf
 refine zam hΘ (X:={ x:Nat×List UInt8×Nat // x.1<=ar.length+1/\x.2.1=zae [((ar.length+1:Nat):Int)]++(((a0::ar).take x.1).map (lineW p)).flatten }) (fun x=>[(21,.va (.int .i64 x.1.1))]) (9::jr 22 14 [])
  (fun x=>[(0,.frz F1),(1,zbn 2 caps c (a0::ar)),(2,famE caps (a0::ar)),(4,outC 1 7 x.1.2.2 x.1.2.1),(6,.gone),(7,gE 5 1 encB x.1.2.2 x.1.2.1)]) 8 (fun x=>ar.length+1 - x.1.1) ⟨(0,[]++zae [((ar.length+1:Nat):Int)],c1),by simp⟩
  (fun U W=>leI [(7,6)] U W rfl ⟨tv,zaq (by omega) _ _ _,zay _ _ _,zbe (by omega) _ _ _,tv,zai zab _ _ _ _ _,tv⟩ ⟨rfl,tv⟩ ⟨Fz.r F1,zbd (fun k=>rfl),zb3 (μ:=sig [(7,6)]) (caps:=caps) (l:=a0::ar),ze9 (i:=1) (i':=1) (a:=3) (b:=7) (j:=6) (by rfl) (by rfl),zbr zab,tv⟩) ?_
 rintro⟨⟨k,ob,cb⟩,hk,D⟩ U W;replace hk:k<=ar.length+1:=hk;replace D:ob=zae [((ar.length+1:Nat):Int)]++(((a0::ar).take k).map (lineW p)).flatten:=D
 have af:ob.length<=100000000000:=by
  have h1:=za4 [((ar.length+1:Nat):Int)];have h2:=zjh (p:=p) ((a0::ar).take k) (fun x ad=>(hx x (jx ad)).2);have h3:((a0::ar).take k).length<=1000:=by rw[qj];omega
  rw[D,qb];simp only[qf,qu]at h1;omega
 refine br (fun Y=>?_) (fun Y=>?_)
 ·have gk:k < ar.length+1:=by
   have I:(k:Int) < ((ar.length+1:Nat):Int):=od Y;omega
  clear Y;have Q:k < (a0::ar).length:=gk;have E:=hx _ (qz Q);have ab:∃t n,(a0::ar)[k]=(t,n):=⟨_,_,rfl⟩
  obtain⟨t,n,A⟩:=ab;rw[A]at E;replace E:t.length<=70000/\n.length<=1000:=E;have S:=zeg 2 caps 0 (a0::ar) k (t,n) (by rw[qc Q,A])
  have d:(ob++(if p=1 then(putSR t).1 else []))++zae n=zae [((ar.length+1:Nat):Int)]++(((a0::ar).take (k+1)).map (lineW p)).flatten:=by
   rw[zb5 Q,A,lineW,D];simp only[qn]
  refine⟨rfl,⟨by simp,by show(k:Int) < ((ar.length+1:Nat):Int);omega⟩,rfl,_,by show(zby 2 caps 0 (a0::ar))[0+(k:Int).toNat]? =_;rw[qv,qk];exact S,?_⟩;refine br (fun g1=>?_) (fun g1=>?_)
  ·have O:p=1:=od g1;rw[if_pos O]at d;have ag:=zdm t;have e:(ob++(putSR t).1).length<=1000000000000:=by rw[qb];omega
   refine use (zs9 V F1 t ob cb (by omega) (by omega)) [(1,4),(2,7)] rfl ⟨rfl,rfl,tv⟩ rfl ⟨zbe (by omega) _ _ _,zai zab _ _ _ _ _,tv⟩ (by simp[SV.below,SA.below]) ⟨zii (i:=1) (i':=1) (j:=2) (j':=7) (by rfl),zau zab (za2 _ _ _ _),tv⟩ ?_;rintro g T I n1 B ⟨rfl,rfl,rfl,c2,rfl⟩;rcases n with _ | ⟨n0,G⟩
   ·refine use (zls V F1 _ [] (ob++(putSR t).1) c2 Sl.nil (by simp) e) [(1,4),(2,9)] rfl ⟨⟨rfl,rfl,rfl⟩,rfl,tv⟩ rfl ⟨zbe (by omega) _ _ _,zai zab _ _ _ _ _,tv⟩ (by simp[SV.below,SA.below]) ⟨ze9 (i:=1) (i':=1) (a:=3) (b:=2) (j:=9) (by rfl) (by rfl),zbr zab,tv⟩ ?_;rintro g T I n1 B ⟨rfl,rfl,rfl,M,rfl⟩
    exact⟨⟨(k+1,(ob++(putSR t).1)++zae [],M),by show k+1<=ar.length+1;omega,d⟩,by show ar.length+1 - (k+1) < ar.length+1 - k;omega,
     leR [(7,10)] U W rfl ⟨tv,zaq (by omega) _ _ _,zay _ _ _,zbe (by omega) _ _ _,tv,zai zab _ _ _ _ _,tv⟩ ⟨cnt (by omega),tv⟩
     ⟨Fz.r F1,zbd (fun k=>rfl),zb3 (μ:=sig [(7,10)]) (caps:=caps) (l:=a0::ar),ze9 (i:=1) (i':=1) (a:=3) (b:=7) (j:=10) (by rfl) (by rfl),zbr zab,tv⟩⟩
   ·refine lend 2 (fun k=>(famE caps (a0::ar)).at k) rfl rfl rfl (fun k _=>zcp _ _ _) (fun k _=>zb2 _ _ _) ?_;intro bf K ae R;have s:=zjc caps (l:=a0::ar) (k:=k) (x:=(t,n0::G)) (by rw[qc Q,A]);have u:(famE caps (a0::ar)).has k:=⟨Q,by show(!((((a0::ar).map (·.2)).getD k []).isEmpty))=true;rw[s];rfl⟩
    have f:K (bf k)=some ((famE caps (a0::ar)).at k):=R k u;have m:(famE caps (a0::ar)).at k=.arr 3 1 ((n0::G).map encI) (caps k):=by show SB.arr 3 1 ((((a0::ar).map (·.2)).getD k []).map encI) (caps k)=_;rw[s]
    rw[m,<-qv k]at f;refine use (zls V K _ (n0::G) (ob++(putSR t).1) c2 (Sl.new (l:=n0::G) (cap:=caps (0+k)) f) (by simp at E ⊢;omega) e) [(1,4),(2,9)] rfl ⟨⟨rfl,rfl,rfl,.inr ⟨rfl,rfl,rfl,rfl⟩⟩,rfl,tv⟩ rfl ⟨zbe (by omega) _ _ _,zai zab _ _ _ _ _,tv⟩ (by simp[SV.below,SA.below]) ⟨ze9 (i:=1) (i':=1) (a:=3) (b:=2) (j:=9) (by rfl) (by rfl),zbr zab,tv⟩ ?_;rintro g T I n1 B ⟨rfl,rfl,rfl,M,rfl⟩;refine⟨K,rfl,Fz.r _,rfl,?_⟩
    exact⟨⟨(k+1,(ob++(putSR t).1)++zae (n0::G),M),by show k+1<=ar.length+1;omega,d⟩,by show ar.length+1 - (k+1) < ar.length+1 - k;omega,
     leR [(7,10)] U W rfl ⟨tv,zaq (by omega) _ _ _,zay _ _ _,zbe (by omega) _ _ _,tv,zai zab _ _ _ _ _,tv⟩ ⟨cnt (by omega),tv⟩
     ⟨Fz.r F1,zbd (fun k=>rfl),zb3 (μ:=sig [(7,10)]) (caps:=caps) (l:=a0::ar),ze9 (i:=1) (i':=1) (a:=3) (b:=7) (j:=10) (by rfl) (by rfl),zbr zab,tv⟩⟩
  ·have O:¬p=1:=oe g1;rw[if_neg O,jp]at d;have e:ob.length<=1000000000000:=by omega
   rcases n with _ | ⟨n0,G⟩
   ·refine use (zls V F1 _ [] (ob) cb Sl.nil (by simp) e) [(1,4),(2,7)] rfl ⟨⟨rfl,rfl,rfl⟩,rfl,tv⟩ rfl ⟨zbe (by omega) _ _ _,zai zab _ _ _ _ _,tv⟩ (by simp[SV.below,SA.below]) ⟨zii (i:=1) (i':=1) (j:=2) (j':=7) (by rfl),zau zab (za2 _ _ _ _),tv⟩ ?_;rintro g T I n1 B ⟨rfl,rfl,rfl,M,rfl⟩
    exact⟨⟨(k+1,(ob)++zae [],M),by show k+1<=ar.length+1;omega,d⟩,by show ar.length+1 - (k+1) < ar.length+1 - k;omega,
     leR [(7,9)] U W rfl ⟨tv,zaq (by omega) _ _ _,zay _ _ _,zbe (by omega) _ _ _,tv,zai zab _ _ _ _ _,tv⟩ ⟨cnt (by omega),tv⟩
     ⟨Fz.r F1,zbd (fun k=>rfl),zb3 (μ:=sig [(7,9)]) (caps:=caps) (l:=a0::ar),ze9 (i:=1) (i':=1) (a:=3) (b:=7) (j:=9) (by rfl) (by rfl),zbr zab,tv⟩⟩
   ·refine lend 2 (fun k=>(famE caps (a0::ar)).at k) rfl rfl rfl (fun k _=>zcp _ _ _) (fun k _=>zb2 _ _ _) ?_;intro bf K ae R;have s:=zjc caps (l:=a0::ar) (k:=k) (x:=(t,n0::G)) (by rw[qc Q,A]);have u:(famE caps (a0::ar)).has k:=⟨Q,by show(!((((a0::ar).map (·.2)).getD k []).isEmpty))=true;rw[s];rfl⟩
    have f:K (bf k)=some ((famE caps (a0::ar)).at k):=R k u;have m:(famE caps (a0::ar)).at k=.arr 3 1 ((n0::G).map encI) (caps k):=by show SB.arr 3 1 ((((a0::ar).map (·.2)).getD k []).map encI) (caps k)=_;rw[s]
    rw[m,<-qv k]at f;refine use (zls V K _ (n0::G) (ob) cb (Sl.new (l:=n0::G) (cap:=caps (0+k)) f) (by simp at E ⊢;omega) e) [(1,4),(2,7)] rfl ⟨⟨rfl,rfl,rfl,.inr ⟨rfl,rfl,rfl,rfl⟩⟩,rfl,tv⟩ rfl ⟨zbe (by omega) _ _ _,zai zab _ _ _ _ _,tv⟩ (by simp[SV.below,SA.below]) ⟨zii (i:=1) (i':=1) (j:=2) (j':=7) (by rfl),zau zab (za2 _ _ _ _),tv⟩ ?_;rintro g T I n1 B ⟨rfl,rfl,rfl,M,rfl⟩;refine⟨K,rfl,Fz.r _,rfl,?_⟩
    exact⟨⟨(k+1,(ob)++zae (n0::G),M),by show k+1<=ar.length+1;omega,d⟩,by show ar.length+1 - (k+1) < ar.length+1 - k;omega,
     leR [(7,9)] U W rfl ⟨tv,zaq (by omega) _ _ _,zay _ _ _,zbe (by omega) _ _ _,tv,zai zab _ _ _ _ _,tv⟩ ⟨cnt (by omega),tv⟩
     ⟨Fz.r F1,zbd (fun k=>rfl),zb3 (μ:=sig [(7,9)]) (caps:=caps) (l:=a0::ar),ze9 (i:=1) (i':=1) (a:=3) (b:=7) (j:=9) (by rfl) (by rfl),zbr zab,tv⟩⟩
 ·have gk:k=ar.length+1:=by
   have I:¬(k:Int) < ((ar.length+1:Nat):Int):=oe Y;omega
  clear Y
  have J:ob=zbv p ⟨false,a0::ar,w,h,bits⟩:=by
   rw[hW,D,gk];have:(a0::ar).take (ar.length+1)=a0::ar:=qi (by simp);rw[this];rfl
  rcases ob with _ | ⟨y,q⟩
  ·exact zd8 J l1 rfl rfl rfl
  ·refine⟨rfl,by simp,(y::q).map encB,by show(((y::q).map encB).drop 0).take (q.length+1)=_;rw[yz,qi (by simp)],y::q,rfl,?_⟩;exact zd8 J l1 rfl rfl rfl
theorem zr7(s:PFun)(F:Fz)(w h:Int)(bits:List UInt8)(c:Nat)(caps:Nat->Nat)(p:Int)(m:¬6<=p):
  Ct Tryz.prog 131 [valV ⟨false,[],w,h,bits⟩ 1 c,.va (.int .i64 p)] F (valH ⟨false,[],w,h,bits⟩ c caps) 3 (fun o _ d n0=>n0=3/\o=.ret (.va (.str (zbv p ⟨false,[],w,h,bits⟩)))/\d=valH ⟨false,[],w,h,bits⟩ c caps):=by
 have e:zbv p ⟨false,[],w,h,bits⟩=[]++zae [0]:=by rw[zbv,if_neg (by simp),if_neg m];exact jp (zae [0])
 obtain⟨j,i⟩:∃j,[]++zae [0]=j:=⟨_,rfl⟩
 refine ct_of hΘ Tryz.func131 rfl (by decide) _ _ rfl rfl rfl ?_;refine brj m ?_;refine zaz 5 (fun _=>.arr 3 1 ([(0:Int)].map encI) 1) rfl rfl rfl (fun _ _=>rfl) (fun _ _=>SB.bB_ok rfl) ?_;intro u F1 n f;have a:=zls s F1 _ [0] [] 0 (Sl.new (l:=[(0:Int)]) (cap:=1) (f 0 rfl)) (by simp) (by simp);rw[i]at a e;rcases j with _ | ⟨x,r⟩
 ·refine use a [(1,4),(2,5)] rfl ⟨⟨rfl,rfl,rfl,.inr ⟨rfl,rfl,rfl,rfl⟩⟩,rfl,tv⟩ rfl ⟨zbe (by omega) _ _ _,zai zab _ _ _ _ _,tv⟩ (by simp[SV.below,SA.below]) ⟨rfl,rfl,tv⟩ ?_;rintro b k d n0 g ⟨rfl,rfl,rfl,q,rfl⟩;conv=>whnf
  refine rounds hΘ 1 ?_;refine brd (by decide) ?_;exact zd8 e.symm n rfl rfl rfl
 ·refine use a [(1,4),(2,5)] rfl ⟨⟨rfl,rfl,rfl,.inr ⟨rfl,rfl,rfl,rfl⟩⟩,rfl,tv⟩ rfl ⟨zbe (by omega) _ _ _,zai zab _ _ _ _ _,tv⟩ (by simp[SV.below,SA.below]) ⟨rfl,rfl,tv⟩ ?_;rintro b k d n0 g ⟨rfl,rfl,rfl,q,rfl⟩;conv=>whnf
  refine rounds hΘ 1 ?_;refine brd (by decide) ⟨rfl,by simp,(x::r).map encB,convR _ (x::r) _ rfl,x::r,rfl,?_⟩;exact zd8 e.symm n rfl rfl rfl
structure Fits(v:Val):Prop where
 h1:v.lines.length<=1000
 h2:∀x∈v.lines,x.1.length<=70000/\x.2.length<=1000
 h3:v.bits.length<=70000
theorem z6c(e:PFun)(F:Fz)(v:Val)(c:Nat)(caps:Nat->Nat)(p:Int)(f:Fits v)(k:p<=8):
  Ct Tryz.prog 131 [valV v 1 c,.va (.int .i64 p)] F (valH v c caps) 3 (fun o _ i n0=>n0=3/\o=.ret (.va (.str (zbv p v)))/\i=valH v c caps):=by
 by_cases a:v.lost=true
 ·exact zr6 F v c caps p a
 ·have a:v.lost=false:=by simpa using a
  by_cases g:6<=p
  ·exact zmh e F v c caps p a (by omega) f.h3
  ·obtain⟨d,L,w,h,bits⟩:=v;replace a:d=false:=a;subst a;by_cases b:L=[]
   ·subst b;exact zr7 e F w h bits c caps p g
   ·exact zpp e F L w h bits c caps p g b f.h1 f.h2
theorem zur(r:List Int):∀x:Int,(r.foldl (fun m x=>if x < m then x else m) x∈x::r)/\∀y∈x::r,r.foldl (fun m x=>if x < m then x else m) x<=y:=by
 induction r with
 |nil=>intro x;simp
 |cons a r ih=>
  intro x;obtain⟨h1,b⟩:=ih (if a < x then a else x);simp only[qah];refine⟨?_,?_⟩
  ·rcases ql.1 h1 with h | h
   ·rw[h];split<;>simp
   ·exact yu _ (yu _ h)
  ·intro y hy;have c:=b _ qb7;rcases ql.1 hy with rfl | hy
   ·refine qax c ?_;split<;>omega
   ·rcases ql.1 hy with rfl | hy
    ·refine qax c ?_;split<;>omega
    ·exact b y (yu _ hy)
theorem zus(r:List Int):∀x:Int,(r.foldl (fun m x=>if x>m then x else m) x∈x::r)/\∀y∈x::r,y<=r.foldl (fun m x=>if x>m then x else m) x:=by
 induction r with
 |nil=>intro x;simp
 |cons a r ih=>
  intro x;obtain⟨h1,b⟩:=ih (if a>x then a else x);simp only[qah];refine⟨?_,?_⟩
  ·rcases ql.1 h1 with h | h
   ·rw[h];split<;>simp
   ·exact yu _ (yu _ h)
  ·intro y hy;have c:=b _ qb7;rcases ql.1 hy with rfl | hy
   ·refine qax ?_ c;split<;>omega
   ·rcases ql.1 hy with rfl | hy
    ·refine qax ?_ c;split<;>omega
    ·exact b y (yu _ hy)
theorem zq1{s:List Int}(h:s≠[]):mn s∈s:=by
 cases s with
 |nil=>exact absurd rfl h
 |cons x r=>exact(zur r x).1
theorem mn_le{s:List Int}{y:Int}(h:y∈s):mn s<=y:=by
 cases s with
 |nil=>cases h
 |cons x r=>exact(zur r x).2 y h
theorem zq4{s:List Int}(h:s≠[]):mx s∈s:=by
 cases s with
 |nil=>exact absurd rfl h
 |cons x r=>exact(zus r x).1
theorem le_mx{s:List Int}{y:Int}(h:y∈s):y<=mx s:=by
 cases s with
 |nil=>cases h
 |cons x r=>exact(zus r x).2 y h
theorem mn_eq{s:List Int}{m:Int}(h:m∈s)(a:∀y∈s,m<=y):mn s=m:=
 Int.le_antisymm (mn_le h) (a _ (zq1 (by intro e;rw[e]at h;cases h)))
theorem mx_eq{s:List Int}{m:Int}(h:m∈s)(a:∀y∈s,y<=m):mx s=m:=
 Int.le_antisymm (a _ (zq4 (by intro e;rw[e]at h;cases h))) (le_mx h)
theorem zgm(κ:Int)(a b:List Stp):sel κ (a++b)=sel κ a++sel κ b:=by simp[sel]
theorem yck{κ ν:Int}{l:List Stp}:ν∈sel κ l↔(κ,ν)∈l:=by
 simp only[sel,jj,qdh,decide_eq_true_eq];constructor
 ·rintro⟨⟨k,n⟩,⟨h1,a⟩,b⟩;simp only at a b;subst a;subst b;exact h1
 ·intro h;exact⟨(κ,ν),⟨h,rfl⟩,rfl⟩
theorem zhj{p:Int}{l:List Stp}(h:za8 p l=true):∀s∈l,zbt p s=true:=by
 simp only[za8,qd]at h;exact fun s a=>qo.1 h.2.2 s a
theorem zmc{p:Int}{l:List Stp}(h:za8 p l=true):1<=p/\p<=8:=by
 simp only[za8,qd,decide_eq_true_eq]at h;exact h.1
theorem z5z{p:Int}{l:List Stp}(b:1<=p/\p<=8)(a:l.length<=64)(h:∀s∈l,zbt p s=true):za8 p l=true:=by
 simp only[za8,qd,decide_eq_true_eq];exact⟨b,a,qo.2 h⟩
theorem zzz{κ:Int}{s:List Int}{t:Stp}(h:t∈piece κ s):t.1=κ/\t.2∈s:=by
 unfold piece at h;split at h
 ·cases h
 ·rename_i a;split at h
  ·rename_i b;simp only[qp]at h;subst h;exact⟨b.symm,zq4 a⟩
  ·split at h
   ·rename_i c;simp only[jj]at h;obtain⟨n,d,rfl⟩:=h;exact⟨c.symm,jx d⟩
   ·simp only[qp]at h;subst h;exact⟨rfl,zq1 a⟩
def cut(κ:Int)(s:List Int):List Int:=(piece κ s).map (·.2)
theorem z08(κ b:Int)(s:List Int):sel κ (piece b s)=if b=κ then cut κ s else []:=by
 have h1:∀t∈piece b s,t.1=b:=fun t a=>(zzz a).1
 split
 ·rename_i h;subst h;unfold sel cut;rw[List.filter_eq_self.2 (fun t a=>by simp[h1 t a])]
 ·rename_i h;unfold sel;rw[List.filter_eq_nil_iff.2 (fun t a=>by simp[h1 t a,h])];rfl
theorem zkn{l:List Stp}(a:sel 6 l=[])(κ:Int)(b:κ=1\/κ=2\/κ=3\/κ=4\/κ=5\/κ=6):sel κ (normS l)=if κ=6 then []else cut κ (sel κ l):=by
 unfold normS;rw[if_pos a];simp only[pieces,jy,qas,qx,jp,zgm,z08];rcases b with rfl | rfl | rfl | rfl | rfl | rfl<;>simp
theorem zyp(κ:Int):cut κ []=[]:=rfl
theorem zwx{κ:Int}{s:List Int}:cut κ s=[]↔s=[]:=by
 constructor
 ·intro h;apply Classical.byContradiction;intro a;unfold cut piece at h;rw[if_neg a]at h;split at h
  ·cases h
  ·split at h
   ·simp at h;exact a h
   ·cases h
 ·rintro rfl;rfl
theorem z0i{κ:Int}(s t:List Int):piece κ (cut κ s++cut κ t)=piece κ (s++t):=by
 by_cases a:s=[]
 ·subst a;rw[zyp,qx,qx];by_cases b:t=[]
  ·subst b;rfl
  ·have j:¬cut κ t=[]:=fun h=>b (zwx.1 h)
   by_cases c:κ=3
   ·simp[piece,cut,b,c,mx]
   ·by_cases d:κ=5
    ·subst d;simp[piece,cut,b,Function.comp_def,qa1]
    ·simp[piece,cut,b,c,d,mn]
 ·by_cases b:t=[]
  ·subst b;rw[zyp,jp,jp];by_cases c:κ=3
   ·simp[piece,cut,a,c,mx]
   ·by_cases d:κ=5
    ·subst d;simp[piece,cut,a,Function.comp_def,qa1]
    ·simp[piece,cut,a,c,d,mn]
  ·by_cases c:κ=3
   ·subst c
    have e:mx (s++t)=mx ([mx s]++[mx t]):=by
     refine mx_eq ?_ ?_
     ·rcases ql.1 (zq4 (s:=[mx s]++[mx t]) (by simp))with h | h
      ·rw[h];exact qa8 _ (zq4 a)
      ·rw[qp.1 h];exact qar _ (zq4 b)
     ·intro y f;rcases yj.1 f with h | h
      ·exact qax (le_mx h) (le_mx (by simp))
      ·exact qax (le_mx h) (le_mx (by simp))
    simp[piece,cut,a,b,e]
   ·by_cases d:κ=5
    ·subst d;have g:∀s:List Int,s≠[]->cut 5 s=s.take 5:=fun s a=>by simp[cut,piece,a,Function.comp_def]
     rw[g s a,g t b];have e:∀u:List Int,u≠[]->piece 5 u=(u.take 5).map (fun n=>((5:Int),n)):=fun u i=>by simp[piece,i]
     rw[e _ (by simp[a]),e _ (by simp[a])]
     congr 1
     rw[List.take_append,List.take_append,qa1,qa1,qj]
     congr 2
     omega
    ·have e:mn (s++t)=mn ([mn s]++[mn t]):=by
      refine mn_eq ?_ ?_
      ·rcases ql.1 (zq1 (s:=[mn s]++[mn t]) (by simp))with h | h
       ·rw[h];exact qa8 _ (zq1 a)
       ·rw[qp.1 h];exact qar _ (zq1 b)
      ·intro y f;rcases yj.1 f with h | h
       ·exact qax (mn_le (by simp)) (mn_le h)
       ·exact qax (mn_le (by simp)) (mn_le h)
     simp[piece,cut,a,b,c,d,e]
theorem zvl{l:List Stp}(h:sel 6 l=[]):normS l=(pieces (sel 1 l) (sel 2 l) (sel 3 l) (sel 4 l) (sel 5 l)).flatten:=if_pos h
theorem zf0{l:List Stp}(h:sel 6 l≠[]):normS l=[(6,0)]:=if_neg h
theorem zv6:sel 6 [((6:Int),(0:Int))]=[0]:=rfl
theorem zlj(a b:List Stp):normS (normS a++normS b)=normS (a++b):=by
 by_cases c:sel 6 a=[]
 ·by_cases d:sel 6 b=[]
  ·have i:sel 6 (normS a++normS b)=[]:=by rw[zgm,zkn c 6 (by simp),zkn d 6 (by simp)];rfl
   have g:sel 6 (a++b)=[]:=by rw[zgm,c,d];rfl
   have e:∀κ,(κ=1\/κ=2\/κ=3\/κ=4\/κ=5\/κ=6)->κ≠6->piece κ (sel κ (normS a++normS b))=piece κ (sel κ (a++b)):=fun κ h f=>by
    rw[zgm,zgm,zkn c κ h,zkn d κ h,if_neg f,if_neg f,z0i]
   rw[zvl i,zvl g,pieces,pieces,e 1 (by simp) (by decide),e 2 (by simp) (by decide),e 3 (by simp) (by decide),e 4 (by simp) (by decide),e 5 (by simp) (by decide)]
  ·rw[zf0 d,zf0 (l:=normS a++[(6,0)]) (by rw[zgm,zv6];simp),zf0 (l:=a++b) (by rw[zgm];simp[d])]
 ·rw[zf0 c,zf0 (l:=[(6,0)]++normS b) (by rw[zgm,zv6];simp),zf0 (l:=a++b) (by rw[zgm];simp[c])]
def behind(a:List Stp):List (List Stp):=[a,[(6,0)],[],[(5,0)],[(5,0),(5,0)],[(5,0),(5,0),(5,0)],[(5,0),(5,0),(5,0),(5,0)],[(5,0),(5,0),(5,0),(5,0),(5,0)]]
theorem zm6{B:Nat}{caps:Nat->Nat}{t:List UInt8}{n a:List Int}(b:n.length=a.length):∀(j:Nat) (L:List Ln) (i:Nat),L[i]? =some (t,n)->zby B caps j (L.set i (t,a))=zby B caps j L
 |j,y::r,0,h=>by
  simp at h;subst h;rw[qat,zby,zby]
  congr 2
  show[nA B j (caps j) a]=[nA B j (caps j) n];cases n<;>cases a<;>simp_all[nA]
 |j,y::r,i+1,h=>by
  rw[qcz,zby,zby,zm6 b (j+1) r i (by simpa using h)]
theorem zm8{B:Nat}{caps:Nat->Nat}{c:Nat}{t:List UInt8}{n a:List Int}(b:n.length=a.length){L:List Ln}{i:Nat}(h:L[i]? =some (t,n)):zbn B caps c (L.set i (t,a))=zbn B caps c L:=by
 unfold zbn;rw[zm6 b 0 L i h];cases L with
 |nil=>simp at h
 |cons x r=>cases i<;>rfl
theorem zuq{L:List Ln}{k:Nat}:(L.map (·.2)).getD k []=((L[k]?).map (·.2)).getD []:=by
 rw[ym,qs]
theorem z3g{caps:Nat->Nat}{t:List UInt8}{n d:List Int}(o:n.length=d.length){L:List Ln}{i:Nat}(h:L[i]? =some (t,n))(f:n≠[]):
  famE caps (L.set i (t,d))=.fam L.length (fun k=>!((L.map (·.2)).getD k []).isEmpty) (fun k=>if k=i then .arr 3 1 (d.map encI) (caps i)else .arr 3 1 (((L.map (·.2)).getD k []).map encI) (caps k)):=by
 have m:i < L.length:=(qh.1 h).1
 have g:∀k,((L.set i (t,d)).map (·.2)).getD k []=if k=i then d else(L.map (·.2)).getD k []:=by
  intro k;rw[zuq,zuq,qc4];by_cases c:i=k
  ·subst c;rw[if_pos rfl,if_pos m,if_pos rfl];rfl
  ·rw[if_neg c,if_neg (fun e=>c e.symm)]
 unfold famE
 have j:(fun k=>!(((L.set i (t,d)).map (·.2)).getD k []).isEmpty)=(fun k=>!((L.map (·.2)).getD k []).isEmpty):=by
  funext k
  rw[g];by_cases c:k=i
  ·subst c;rw[if_pos rfl,zjc caps h];cases n with
   |nil=>exact absurd rfl f
   |cons a r=>cases d with
    |nil=>simp at o
    |cons b r'=>rfl
  ·rw[if_neg c]
 have l:(fun k=>SB.arr 3 1 ((((L.set i (t,d)).map (·.2)).getD k []).map encI) (caps k))=(fun k=>if k=i then .arr 3 1 (d.map encI) (caps i)else .arr 3 1 (((L.map (·.2)).getD k []).map encI) (caps k)):=by
  funext k
  rw[g];by_cases c:k=i
  ·subst c;rw[if_pos rfl,if_pos rfl]
  ·rw[if_neg c,if_neg c]
 rw[qa6,j,l]
theorem z6n{caps:Nat->Nat}{t:List UInt8}{n c:List Int}(d:n.length=c.length){L:List Ln}{i:Nat}(h:L[i]? =some (t,n))(b:n≠[]){a:List (List SA)}(e:a=c.map encI){μ:Mu}:
  subE (some (.fam L.length (fun k=>!((L.map (·.2)).getD k []).isEmpty) (fun k=>if k=i then .arr 3 1 a (caps i)else .arr 3 1 (((L.map (·.2)).getD k []).map encI) (caps k)))) ((famE caps (L.set i (t,c))).ren μ):=by
 subst e;rw[zkb,z3g d h b];cases L with
 |nil=>simp at h
 |cons x r=>exact⟨rfl,rfl,rfl⟩
theorem zpd{α:Type}{L:List α}{i:Nat}{x:α}(h:L[i]? =some x):L.set i x=L:=by
 apply qbo;intro k;rw[qc4];by_cases a:i=k
 ·subst a;rw[if_pos rfl,if_pos (qh.1 h).1,h]
 ·rw[if_neg a]
def stepK(F:Fz)(c:Nat)(caps:Nat->Nat)(L:List Ln):Out->Fz->List (Nat×Ent)->Nat->Prop:=fun o a b n0=>a=F/\n0=3/\o=.ret (.tup [])/\b=[(1,zbn 2 caps c L),(2,famE caps L)]
def limN(a:Int):List Int->List Int
 |[]=>[]
 |x::r=>(if x>a then 0 else x)::r
theorem z3z(F:Fz)(L:List Ln)(i c:Nat)(caps:Nat->Nat)(t:List UInt8)(x a:Int)(r:List Int)(h:L[i]? =some (t,x::r)):
  Ct Tryz.prog 193 [.va (.ptr ⟨1,0,i,2,0⟩),.va (.int .i64 a)] F [(1,zbn 2 caps c L),(2,famE caps L)] 3
   (stepK F c caps (L.set i (t,limN a (x::r)))):=by
 have b:=zeg 2 caps 0 L i _ h;rw[qv]at b;have m:i < L.length:=(qh.1 h).1;have d:=zjc caps h;rcases L with _ | ⟨a0,ar⟩
 ·exact absurd m (by simp)
 have p:((x::r).length=(limN a (x::r)).length):=rfl;have l:=zm8 (B:=2) (caps:=caps) (c:=c) p h;have j:∀μ:Mu,(∀k,μ 2 k=(2,k))->subE (some (zbn 2 caps c (a0::ar))) ((zbn 2 caps c ((a0::ar).set i (t,limN a (x::r)))).ren μ):=fun μ u=>by rw[l];exact zbd u
 have n:decide (a < x)=false->∀μ:Mu,subE (some (famE caps (a0::ar))) ((famE caps ((a0::ar).set i (t,limN a (x::r)))).ren μ):=fun g μ=>by
  have s:(a0::ar).set i (t,limN a (x::r))=a0::ar:=by rw[limN,if_neg (oe g)];exact zpd h
  rw[s];exact zb3
 have q:decide (a < x)=true->(List.map encI ((List.map (fun x:Ln=>x.snd) (a0::ar)).getD i [])).set 0 [.int .i64 0]=(limN a (x::r)).map encI:=fun g=>by
  rw[d,limN,if_pos (od g)];rfl
 refine ct_of hΘ Tryz.func193 rfl (by decide) _ _ rfl rfl rfl ?_;refine⟨rfl,_,b,rfl,⟨by simp,by show(0:Int) < ((r.length+1:Nat):Int);omega⟩,?_⟩;conv=>whnf
 have e:(!((List.map (fun x:Ln=>x.snd) (a0::ar)).getD i []).isEmpty)=true:=by rw[d];rfl
 have f:(List.map encI ((List.map (fun x:Ln=>x.snd) (a0::ar)).getD i []))[0]? =some [.int .i64 x]:=by rw[d];rfl
 have o:(List.map encI ((List.map (fun x:Ln=>x.snd) (a0::ar)).getD i []))=encI x::r.map encI:=by rw[d];rfl
 refine⟨⟨m,e⟩,_,f,?_⟩;refine br (fun g=>?_) (fun g=>?_)
 ·refine⟨rfl,_,b,rfl,⟨by simp,by show(0:Int) < ((r.length+1:Nat):Int);omega⟩,⟨m,e⟩,_,f,?_⟩;refine clean [] (.ret (.tup [])) F [(1,zbn 2 caps c ((a0::ar).set i (t,limN a (x::r)))),(2,famE caps ((a0::ar).set i (t,limN a (x::r))))] 3 ⟨Fz.r F,rfl,rfl,rfl,rfl⟩ (zah _) rfl rfl (by simp[Out.below,SV.below]) ⟨zaq (by omega) _ _ _,zay _ _ _,tv⟩ ⟨Fz.r F,?_,?_,tv⟩
  ·exact j _ (fun k=>rfl)
  ·refine z6n p h (by simp) ?_;exact q g
 ·refine clean [] (.ret (.tup [])) F [(1,zbn 2 caps c ((a0::ar).set i (t,limN a (x::r)))),(2,famE caps ((a0::ar).set i (t,limN a (x::r))))] 3 ⟨Fz.r F,rfl,rfl,rfl,rfl⟩ (zah _) rfl rfl (by simp[Out.below,SV.below]) ⟨zaq (by omega) _ _ _,zay _ _ _,tv⟩ ⟨Fz.r F,?_,?_,tv⟩
  ·exact j _ (fun k=>rfl)
  ·exact n g _
def rndN(a:Int):List Int->List Int
 |x::y::z::r=>x::y::(z - z.tmod a)::r
 |l=>l
theorem z5a(F:Fz)(L:List Ln)(i c:Nat)(caps:Nat->Nat)(t:List UInt8)(x y z a:Int)(r:List Int)(h:L[i]? =some (t,x::y::z::r))(p:0 < a)(I:-1000000000000000000<=z)(E:z<=1000000000000000000)(u:a<=1000000000000000000):
  Ct Tryz.prog 191 [.va (.ptr ⟨1,0,i,2,0⟩),.va (.int .i64 a)] F [(1,zbn 2 caps c L),(2,famE caps L)] 3
   (stepK F c caps (L.set i (t,rndN a (x::y::z::r)))):=by
 have b:=zeg 2 caps 0 L i _ h;rw[qv]at b;have j:i < L.length:=(qh.1 h).1;have e:=zjc caps h;rcases L with _ | ⟨a0,ar⟩
 ·exact absurd j (by simp)
 have q:((x::y::z::r).length=(rndN a (x::y::z::r)).length):=rfl;have l:=zm8 (B:=2) (caps:=caps) (c:=c) q h;have m:∀μ:Mu,(∀k,μ 2 k=(2,k))->subE (some (zbn 2 caps c (a0::ar))) ((zbn 2 caps c ((a0::ar).set i (t,rndN a (x::y::z::r)))).ren μ):=fun μ G=>by rw[l];exact zbd G
 have A:z.tmod a < a:=qb6 _ p
 have w:-a < z.tmod a:=by
  have h1:(-z).tmod a < a:=qb6 _ p;rw[Int.neg_tmod]at h1;omega
 have g:IntKind.i64.wrap (z - z.tmod a)=z - z.tmod a:=zaj (by omega) (by omega);have o:IntKind.i64.wrap (z - IntKind.i64.wrap (z.tmod a))=z - z.tmod a:=by rw[zaj (n:=z.tmod a) (by omega) (by omega),g]
 have s:∀v,v=z - z.tmod a->(List.map encI ((List.map (fun x:Ln=>x.snd) (a0::ar)).getD i [])).set 2 [.int .i64 v]=(rndN a (x::y::z::r)).map encI:=by
  intro v D;subst D;rw[e,rndN];rfl
 have d:(!((List.map (fun x:Ln=>x.snd) (a0::ar)).getD i []).isEmpty)=true:=by rw[e];rfl
 have f:(List.map encI ((List.map (fun x:Ln=>x.snd) (a0::ar)).getD i []))[2]? =some [.int .i64 z]:=by rw[e];rfl
 refine ct_of hΘ Tryz.func191 rfl (by decide) _ _ rfl rfl rfl ?_;refine drawP hΘ mixed (lk [0,1,2,3,4,5,6,7,8,9,10,11,12,13,14,15] (.last 16 .done)) [1,2] (by kernel_rfl) ⟨rfl,rfl,_,b,rfl,⟨by simp,by show(2:Int) < ((r.length+1+1+1:Nat):Int);omega⟩,rfl,⟨j,d⟩,_,f,rfl,rfl,_,b,rfl,⟨by simp,by show(2:Int) < ((r.length+1+1+1:Nat):Int);omega⟩,rfl,⟨j,d⟩,_,f,(by omega),rfl,⟨by simp,by show(2:Int) < ((r.length+1+1+1:Nat):Int);omega⟩,⟨j,d⟩,_,f,?_⟩;refine clean [] (.ret (.tup [])) F [(1,zbn 2 caps c ((a0::ar).set i (t,rndN a (x::y::z::r)))),(2,famE caps ((a0::ar).set i (t,rndN a (x::y::z::r))))] 3 ⟨Fz.r F,rfl,rfl,rfl,rfl⟩ (zah _) rfl rfl (by simp[Out.below,SV.below]) ⟨zaq (by omega) _ _ _,zay _ _ _,tv⟩ ⟨Fz.r F,?_,?_,tv⟩
 ·exact m _ (fun k=>rfl)
 ·refine z6n q h (by simp) ?_
  first
  |exact s _ g
  |exact s _ o
def valE(v:Val)(i c:Nat):Ent:=.one (.cells 201 [.lit v.lost,gA 2 i c v.lines,.int .i64 v.w,.int .i64 v.h,.str v.bits])
def lnE(B:Nat)(caps:Nat->Nat)(c:Nat):List Ln->Ent
 |[]=>.gone
 |x::r=>zbn B caps c (x::r)
def fmE(caps:Nat->Nat):List Ln->Ent
 |[]=>.gone
 |x::r=>famE caps (x::r)
theorem zzv{n B:Nat}(h:B < n)(caps:Nat->Nat)(c:Nat)(l:List Ln):(lnE B caps c l).below n:=by
 cases l with
 |nil=>trivial
 |cons x r=>exact zaq h _ _ _
theorem zy6(n:Nat)(caps:Nat->Nat)(l:List Ln):(fmE caps l).below n:=by
 cases l with
 |nil=>trivial
 |cons x r=>exact zay _ _ _
def valM(v:Val)(c:Nat)(caps:Nat->Nat):List (Nat×Ent):=[(1,valE v 2 c),(2,lnE 3 caps c v.lines),(3,fmE caps v.lines)]
def stepV(F:Fz)(v:Val):Out->Fz->List (Nat×Ent)->Nat->Prop:=fun o a b n0=>a=F/\n0=4/\o=.ret (.tup [])/\∃c caps,b=valM v c caps
theorem zep{α:Type}{n i:Nat}(h:i < n)(sz c:Nat)(l:List α):(gA sz i c l).below n:=by
 cases l with
 |nil=>trivial
 |cons x r=>exact .inr h
theorem zco{v:Val}{n i:Nat}(h:i < n)(c:Nat):(valE v i c).below n:=by
 show∀a∈_,SA.below n a;intro a b;simp only[ql,qt,or_false]at b;rcases b with rfl | rfl | rfl | rfl | rfl
 ·trivial
 ·exact zep h _ _ _
 ·trivial
 ·trivial
 ·trivial
theorem zjq(v:Val)(c:Nat)(caps:Nat->Nat):bH 4 (valM v c caps):=⟨zco (by omega) _,zzv (by omega) _ _ _,zy6 _ _ _,tv⟩
def loseV:Val:=⟨true,[],0,0,[]⟩
theorem z8v(F:Fz)(v:Val)(a:Int)(c:Nat)(caps:Nat->Nat):
  Ct Tryz.prog 195 [.va (.ptr ⟨1,0,0,0,0⟩),.va (.int .i64 a)] F (valM v c caps) 4 (stepV F loseV):=by
 refine ct_of hΘ Tryz.func195 rfl (by decide) _ _ rfl rfl rfl ?_;refine clean [] (.ret (.tup [])) F (valM loseV 0 (fun _=>0)) 4 ⟨Fz.r F,rfl,rfl,rfl,0,fun _=>0,rfl⟩ (zah _) rfl rfl (by simp[Out.below,SV.below]) (zjq _ _ _) ⟨Fz.r F,rfl,tv⟩
def upTo(f:Ln->Ln)(L:List Ln)(k:Nat):List Ln:=(L.take k).map f++L.drop k
theorem z5w(f:Ln->Ln)(L:List Ln)(k:Nat):(upTo f L k).length=L.length:=by
 unfold upTo;simp only[qb,qa,qj,yd];omega
theorem z5v(f:Ln->Ln){L:List Ln}{k:Nat}{x:Ln}(h:L[k]? =some x):(upTo f L k)[k]? =some x:=by
 have a:=(qh.1 h).1;unfold upTo;rw[jt (by simp only[qa,qj];omega),qaa];have:k+(k - ((L.take k).map f).length)=k:=by simp only[qa,qj];omega
 rw[this,h]
theorem z5x(f:Ln->Ln){L:List Ln}{k:Nat}{x:Ln}(h:L[k]? =some x):(upTo f L k).set k (f x)=upTo f L (k+1):=by
 obtain⟨a,b⟩:=qh.1 h;unfold upTo;rw[qbm _ _ (by simp only[qa,qj];omega)];have e:k - ((L.take k).map f).length=0:=by simp only[qa,qj];omega
 rw[e,qy a,qat,qe a,qq,b];simp
theorem z5u(f:Ln->Ln)(L:List Ln):upTo f L L.length=L.map f:=by
 unfold upTo;simp
theorem zc6{τ μ:Mu}{B a B' c:Nat}{caps:Nat->Nat}{l b:List Ln}(f:∀k,τ B k=(B',k))(d:∀k,μ a k=(B',k))(e:l=b):subE (some ((zbn B caps c l).ren τ)) ((zbn a caps c b).ren μ):=by
 subst e;exact⟨rfl,congrArg (fun L=>SB.arr 259 2 L c) ((ze0 (m:=l.length) (fun k _=>⟨f k,rfl⟩) 0 l (by omega)).trans (ze0 (m:=l.length) (fun k _=>⟨d k,rfl⟩) 0 l (by omega)).symm)⟩
theorem zft{τ μ:Mu}{caps:Nat->Nat}{l a:List Ln}(e:l=a):subE (some ((famE caps l).ren τ)) ((famE caps a).ren μ):=by
 subst e;rw[zkb];exact zb3
theorem zlg{μ:Mu}{a B' c:Nat}{caps:Nat->Nat}{l b:List Ln}(d:∀k,μ a k=(B',k))(e:l=b):subE (some (zbn B' caps c l)) ((zbn a caps c b).ren μ):=by
 subst e;exact zbd d
theorem zqa{μ:Mu}{caps:Nat->Nat}{l a:List Ln}(e:l=a):subE (some (famE caps l)) ((famE caps a).ren μ):=by
 subst e;exact zb3
def z6e(g:Nat)(F:Fz)(c:Nat)(caps:Nat->Nat)(a:Int)(f:Ln->Ln)(x:Ln):Prop:=
 ∀(L:List Ln) (i:Nat),L[i]? =some x->Ct Tryz.prog g [.va (.ptr ⟨1,0,i,2,0⟩),.va (.int .i64 a)] F [(1,zbn 2 caps c L),(2,famE caps L)] 3 (stepK F c caps (L.set i (f x)))
theorem z2z(F:Fz)(g b:Nat)(f:Ln->Ln)(w h:Int)(bits:List UInt8)(d:Bool)(L:List Ln)(a:Int)(c:Nat)(caps:Nat->Nat)(V:F b=some (eF g))(I:L≠[])(W:L.length<=1000000)(U:∀x∈L,z6e g F c caps a f x):
  Ct Tryz.prog 246 [.va (.ptr ⟨1,0,0,0,0⟩),.va (.int .i64 a),.va (.ptr (fp b))] F (valM ⟨d,L,w,h,bits⟩ c caps) 4 (stepV F ⟨d,L.map f,w,h,bits⟩):=by
 rcases L with _ | ⟨a0,ar⟩
 ·exact absurd rfl I
 have Y:ar.length+1<=1000000:=W;refine ct_of hΘ Tryz.func246 rfl (by decide) _ _ rfl rfl rfl ?_;conv=>whnf
 refine zam hΘ (X:={ x:Nat×Ln×List Ln // x.1<=ar.length+1/\x.2.1::x.2.2=upTo f (a0::ar) x.1 }) (fun x=>[(11,.va (.int .i64 x.1.1))]) (5::jr 12 12 [])
  (fun x=>[(0,.frz F),(1,valE ⟨d,a0::ar,w,h,bits⟩ 2 c),(2,zbn 3 caps c (x.1.2.1::x.1.2.2)),(3,famE caps (x.1.2.1::x.1.2.2))]) 4 (fun x=>ar.length+1 - x.1.1) ⟨(0,a0,ar),by simp,by simp[upTo]⟩
  (fun E G=>leI [] E G rfl ⟨tv,zco (by omega) _,zaq (by omega) _ _ _,zay _ _ _,tv⟩ ⟨rfl,tv⟩ ⟨Fz.r F,rfl,zbd (fun k=>rfl),zb3 (μ:=sig []) (caps:=caps) (l:=a0::ar),tv⟩) ?_
 rintro⟨⟨k,m,p⟩,R,e⟩ E G;replace R:k<=ar.length+1:=R;replace e:m::p=upTo f (a0::ar) k:=e;refine br (fun y=>?_) (fun y=>?_)
 ·have D:k < ar.length+1:=by
   have Q:(k:Int) < ((ar.length+1:Nat):Int):=od y;omega
  clear y;have i:∃x,(a0::ar)[k]? =some x:=⟨_,qc D⟩
  obtain⟨x,i⟩:=i;have O:=yy i;have K:(m::p)[k]? =some x:=by rw[e];exact z5v f i
  have B:(m::p).set k (f x)=upTo f (a0::ar) (k+1):=by rw[e];exact z5x f i
  have M:(m::p)[0+k]? =some x:=by rw[qv];exact K
  have q:=U x O (m::p) (0+k) M
  have j:∃s u,s::u=upTo f (a0::ar) (k+1):=by
   have o:=z5w f (a0::ar) (k+1);cases hu:upTo f (a0::ar) (k+1)with
   |nil=>rw[hu]at o;simp at o
   |cons s u=>exact⟨s,u,rfl⟩
  obtain⟨s,u,j⟩:=j;have A:(m::p).set (0+k) (f x)=s::u:=by rw[qv,B,j]
  refine drawP hΘ mixed (lk [0,1,2,3,4,5,6,7] (.alt 8 .done .nil)) [0,1] (by kernel_rfl) ?_;conv=>whnf
  repeat' ((conv=>whnf);first
   |refine⟨rfl,?_⟩
   |refine⟨Fz.r _,rfl,?_⟩
   |refine⟨Fz.r _,rfl,rfl,?_⟩
   |refine⟨⟨by simp,by simp⟩,?_⟩
   |fail)
  refine⟨_,V,rfl,rfl,⟨by simp,by show(k:Int) < ((ar.length+1:Nat):Int);omega⟩,?_⟩;refine use q [(1,2),(2,3)] rfl ⟨rfl,rfl,tv⟩ rfl ⟨zaq (by omega) _ _ _,zay _ _ _,tv⟩ (by simp[SV.below,SA.below]) ⟨zbd (fun k=>rfl),zb3 (caps:=caps) (l:=m::p),tv⟩ ?_;rintro S F0 Q n1 Z ⟨rfl,rfl,rfl,rfl⟩;refine⟨Fz.r _,rfl,rfl,?_⟩
  exact⟨⟨(k+1,s,u),by show k+1<=ar.length+1;omega,j⟩,by show ar.length+1 - (k+1) < ar.length+1 - k;omega,
   leR [] E G rfl ⟨tv,zco (by omega) _,zaq (by omega) _ _ _,zay _ _ _,tv⟩ ⟨cnt (by omega),tv⟩
   ⟨Fz.r _,rfl,zc6 (fun k=>rfl) (fun k=>rfl) A,zft A,tv⟩⟩
 ·have D:k=ar.length+1:=by
   have Q:¬(k:Int) < ((ar.length+1:Nat):Int):=oe y;omega
  clear y;have n:m::p=(a0::ar).map f:=by rw[e,D];exact z5u f (a0::ar)
  have T:valE ⟨d,a0::ar,w,h,bits⟩ 2 c=valE ⟨d,f a0::ar.map f,w,h,bits⟩ 2 c:=by
   simp[valE,gA]
  have J:∀μ:Mu,μ 2 0=(2,0)->subE (some (valE ⟨d,a0::ar,w,h,bits⟩ 2 c)) ((valE ⟨d,f a0::ar.map f,w,h,bits⟩ 2 c).ren μ):=by
   intro μ hμ;rw[<-T];show _=_;simp[SB.ren,gA,SA.ren,hμ]
  refine clean [] (.ret (.tup [])) F (valM ⟨d,f a0::ar.map f,w,h,bits⟩ c caps) 4 ⟨Fz.r F,rfl,rfl,rfl,c,caps,rfl⟩ (zah _) rfl rfl (by simp[Out.below,SV.below]) (zjq _ _ _) ⟨Fz.r F,?_,?_,?_,tv⟩
  ·exact J _ rfl
  ·exact zlg (fun k=>rfl) n
  ·exact zqa n
theorem zlb{B:Nat}{caps:Nat->Nat}{t':List UInt8}{n:List Int}:∀(j:Nat) (L:List Ln) (i:Nat),zby B caps j (L.set i (t',n))=(zby B caps j L).set i [.str t',nA B (j+i) (caps (j+i)) n]
 |j,[],i=>by simp[zby]
 |j,y::r,0=>by
  rw[qat,zby,zby,qat];rfl
 |j,y::r,i+1=>by
  rw[qcz,zby,zby,zlb (j+1) r i,qcz];have:j+1+i=j+(i+1):=by omega
  rw[this]
theorem zk2{caps:Nat->Nat}{t t':List UInt8}{n:List Int}{L:List Ln}{i:Nat}(h:L[i]? =some (t,n)):famE caps (L.set i (t',n))=famE caps L:=by
 have a:(L.set i (t',n)).map (·.2)=L.map (·.2):=by
  rw[qbg];exact zpd (by rw[qs,h];rfl)
 unfold famE;rw[qa6,a]
theorem zqv{caps:Nat->Nat}{c:Nat}{t':List UInt8}{n:List Int}{L:List Ln}{i:Nat}{a:List (List SA)}(b:L≠[])(g:a=(zby 2 caps 0 L).set i [.str t',nA 2 i (caps i) n]){μ:Mu}(h:∀k,μ 2 k=(2,k)):
  subE (some (.opt true (.arr 259 2 a c))) ((zbn 2 caps c (L.set i (t',n))).ren μ):=by
 have e:=zlb (B:=2) (caps:=caps) (t':=t') (n:=n) 0 L i;rw[qv]at e;rw[g,<-e];have d:=zbd (B:=2) (B':=2) (caps:=caps) (c:=c) (l:=L.set i (t',n)) h
 have f:(!(L.set i (t',n)).isEmpty)=true:=by
  cases L with
  |nil=>exact absurd rfl b
  |cons x r=>cases i<;>rfl
 rw[zbn,f]at d;rw[zbn,f];exact d
def LFun(a:List UInt8->List UInt8):Prop:=∀(F:Fz) (s:List UInt8),s.length<=70000->(∀b∈s,b.toNat < 128)->Fo Tryz.prog F 247 [.va (.str s)] (fun o c=>F=c/\o=.ret (.va (.str (a s))))
theorem z8f{e:List UInt8->List UInt8}(j:LFun e)(F:Fz)(L:List Ln)(i c:Nat)(caps:Nat->Nat)(t:List UInt8)(n:List Int)(a:Int)(h:L[i]? =some (t,n))(m:t.length<=70000)(f:∀b∈t,b.toNat < 128):
  Ct Tryz.prog 188 [.va (.ptr ⟨1,0,i,2,0⟩),.va (.int .i64 a)] F [(1,zbn 2 caps c L),(2,famE caps L)] 3
   (stepK F c caps (L.set i (e t,n))):=by
 have d:=zeg 2 caps 0 L i _ h;rw[qv]at d;have l:i < L.length:=(qh.1 h).1;rcases L with _ | ⟨a0,ar⟩
 ·exact absurd l (by simp)
 have g:∀μ:Mu,subE (some (famE caps (a0::ar))) ((famE caps ((a0::ar).set i (e t,n))).ren μ):=fun μ=>by
  rw[zk2 h];exact zb3
 refine ct_of hΘ Tryz.func188 rfl (by decide) _ _ rfl rfl rfl ?_;refine⟨rfl,_,d,?_⟩;refine useFo (j F t m f) rfl ⟨rfl,tv⟩ rfl ?_;rintro _ _ o ⟨rfl,rfl⟩;refine⟨rfl,_,d,?_⟩;refine clean [] (.ret (.tup [])) F [(1,zbn 2 caps c ((a0::ar).set i (e t,n))),(2,famE caps ((a0::ar).set i (e t,n)))] 3 ⟨Fz.r F,rfl,rfl,rfl,rfl⟩ (zah _) rfl rfl (by simp[Out.below,SV.below]) ⟨zaq (by omega) _ _ _,zay _ _ _,tv⟩ ⟨Fz.r F,?_,?_,tv⟩
 ·exact zqv (t':=e t) (n:=n) (by simp) rfl (fun k=>rfl)
 ·exact g _
def hasD:List UInt8->Bool
 |a::b::r=>(a==32&&b==32)||hasD (b::r)
 |_=>false
def repD:List UInt8->List UInt8
 |a::b::r=>if a==32&&b==32 then 32::repD r else a::repD (b::r)
 |l=>l
theorem zo2:∀l:List UInt8,(repD l).length<=l.length
 |[]=>by simp[repD]
 |[a]=>by simp[repD]
 |a::b::r=>by
  rw[repD];have h1:=zo2 r;have c:=zo2 (b::r);simp only[qf]at c;split<;>simp only[qf]<;>omega
theorem zo3:∀l:List UInt8,hasD l=true->(repD l).length < l.length
 |[],h=>by simp[hasD]at h
 |[a],h=>by simp[hasD]at h
 |a::b::r,h=>by
  rw[repD];by_cases c:(a==32&&b==32)=true
  ·rw[if_pos c];have h1:=zo2 r;simp only[qf];omega
  ·rw[if_neg c];rw[hasD,qak]at h;have d:=zo3 (b::r) (h.resolve_left c);simp only[qf]at d ⊢;omega
def spS:Nat->List UInt8->List UInt8
 |0,s=>s
 |f+1,s=>if hasD s then spS f (repD s)else s
theorem zpf:∀(f:Nat) (s:List UInt8),s.length<=f->spS f s=spS s.length s
 |0,s,h=>by
  have:s.length=0:=by omega
  rw[this]
 |f+1,s,h=>by
  rw[spS];by_cases a:hasD s=true
  ·rw[if_pos a];have d:=zo3 s a;rw[zpf f (repD s) (by omega)];obtain⟨m,b⟩:∃m,s.length=m+1:=⟨s.length - 1,by omega⟩
   rw[b,spS,if_pos a];by_cases c:m < f+1
   ·exact(zpf m (repD s) (by omega)).symm
   ·omega
  ·rw[if_neg a];cases e:s.length with
   |zero=>rfl
   |succ m=>rw[spS,if_neg a]
theorem z5p{s:List UInt8}(a:hasD s=true):spS s.length s=spS (repD s).length (repD s):=by
 have c:=zo3 s a;obtain⟨m,b⟩:∃m,s.length=m+1:=⟨s.length - 1,by omega⟩
 rw[b,spS,if_pos a,zpf m (repD s) (by omega)]
theorem z92{s:List UInt8}(a:hasD s=false):spS s.length s=s:=by
 cases b:s.length with
 |zero=>rfl
 |succ m=>rw[spS,if_neg (by rw[a];simp)]
def MLF(F:Fz):Prop:=∃m,F 4=some (.cells 3 [.int .i64 m])
theorem MLF.mono{F b:Fz}(h:MLF F)(a:Fz.le F b):MLF b:=let⟨m,c⟩:=h;⟨m,a _ _ c⟩
def DFun:Prop:=∀(F:Fz) (s:List UInt8),MLF F->s.length<=70000->Fo Tryz.prog F 248 [.va (.str s),.va (.str [32,32])] (fun o a=>F=a/\o=.ret (.va (.bool (hasD s))))
def AFun:Prop:=∀(F:Fz) (s:List UInt8),MLF F->s.length<=70000->Fo Tryz.prog F 249 [.va (.str s),.va (.str [32,32]),.va (.str [32])] (fun o a=>F=a/\o=.ret (.va (.str (repD s))))
theorem zso{α:Type}{L:List α}(h:L≠[]):∃a r,L=a::r:=by cases L with
 |nil=>exact absurd rfl h
 |cons a r=>exact⟨a,r,rfl⟩
theorem yb5{α:Type}{L:List α}(h:L≠[])(i:Nat)(x:α):L.set i x≠[]:=by
 cases L with
 |nil=>exact absurd rfl h
 |cons a r=>cases i<;>simp
theorem zy3{μ:Mu}{caps:Nat->Nat}{l a:List Ln}(e:famE caps l=famE caps a):subE (some (famE caps l)) ((famE caps a).ren μ):=by
 rw[e];exact zb3
theorem z1d(U:DFun)(T:AFun)(F:Fz)(Q:MLF F)(L:List Ln)(i c:Nat)(caps:Nat->Nat)(t:List UInt8)(n:List Int)(a:Int)(h:L[i]? =some (t,n))(Y:t.length<=70000):
  Ct Tryz.prog 189 [.va (.ptr ⟨1,0,i,2,0⟩),.va (.int .i64 a)] F [(1,zbn 2 caps c L),(2,famE caps L)] 3
   (stepK F c caps (L.set i (spS t.length t,n))):=by
 have R:i < L.length:=(qh.1 h).1;rcases L with _ | ⟨a0,ar⟩
 ·exact absurd R (by simp)
 have K:a0::ar≠[]:=by simp
 have W:∀s,famE caps ((a0::ar).set i (s,n))=famE caps (a0::ar):=fun s=>zk2 h
 have M:(a0::ar).set i (t,n)=a0::ar:=zpd h;have o:∀s O,((a0::ar).set i (s,n)).set i (O,n)=(a0::ar).set i (O,n):=fun s O=>List.set_set ..
 have y:∀s,((a0::ar).set i (s,n))[i]? =some (s,n):=fun s=>by rw[qc4,if_pos rfl,if_pos R]
 refine ct_of hΘ Tryz.func189 rfl (by decide) _ _ rfl rfl rfl ?_;conv=>whnf
 refine zam hΘ (X:={ x:List UInt8×Ln×List Ln // x.2.1::x.2.2=(a0::ar).set i (x.1,n)/\x.1.length<=t.length/\spS x.1.length x.1=spS t.length t }) (fun _=>[]) (jr 4 13 [])
  (fun x=>[(0,.frz F),(1,zbn 2 caps c (x.1.2.1::x.1.2.2)),(2,famE caps (x.1.2.1::x.1.2.2))]) 3 (fun x=>x.1.1.length) ⟨(t,a0,ar),M.symm,qg _,rfl⟩
  (fun E G=>leI [] E G rfl ⟨tv,zaq (by omega) _ _ _,zay _ _ _,tv⟩ trivial ⟨Fz.r F,zbd (fun k=>rfl),zb3 (μ:=sig []) (caps:=caps) (l:=a0::ar),tv⟩) ?_
 rintro⟨⟨s,m,p⟩,d,A,f⟩ E G;replace d:m::p=(a0::ar).set i (s,n):=d;replace A:s.length<=t.length:=A;replace f:spS s.length s=spS t.length t:=f;have h1:(m::p)[i]? =some (s,n):=by rw[d];exact y s
 have b:=zeg 2 caps 0 (m::p) i _ h1;rw[qv]at b;have I:hasD s=true\/hasD s=false:=by cases hasD s<;>simp
 have e:∃q D,(a0::ar).set i (repD s,n)=q::D:=zso (yb5 K _ _);obtain⟨q,D,e⟩:=e;have j:(m::p).set i (repD s,n)=q::D:=by rw[d,o,e]
 have w:famE caps (m::p)=famE caps (q::D):=by rw[<-j,zk2 h1]
 refine⟨rfl,_,b,?_⟩;refine useFo (U F s Q (by omega)) rfl ⟨rfl,rfl,tv⟩ rfl ?_;rintro _ _ Z ⟨rfl,rfl⟩;refine br (fun g=>?_) (fun g=>?_)
 ·have g:hasD s=true:=g;have J:=zo3 s g;have B:=z5p g;refine⟨rfl,_,b,?_⟩;refine useFo (T F s Q (by omega)) rfl ⟨rfl,rfl,rfl,tv⟩ rfl ?_;rintro _ _ l2 ⟨rfl,rfl⟩;refine⟨rfl,_,b,?_⟩
  refine⟨⟨(repD s,q,D),e.symm,by show(repD s).length<=t.length;omega,by show spS (repD s).length (repD s)=_;rw[<-B];exact f⟩,J,
   leR [] E G rfl ⟨tv,zaq (by omega) _ _ _,zay _ _ _,tv⟩ trivial ⟨Fz.r _,?_,zy3 w,tv⟩⟩
  have S:=zqv (caps:=caps) (c:=c) (t':=repD s) (n:=n) (L:=m::p) (i:=i) (by simp) rfl (μ:=sig []) (fun k=>rfl);rw[j]at S;exact S
 ·have g:hasD s=false:=g;have V:s=spS t.length t:=by rw[<-f];exact(z92 g).symm
  have u:m::p=(a0::ar).set i (spS t.length t,n):=by rw[d,<-V]
  refine clean [] (.ret (.tup [])) F [(1,zbn 2 caps c ((a0::ar).set i (spS t.length t,n))),(2,famE caps ((a0::ar).set i (spS t.length t,n)))] 3 ⟨Fz.r F,rfl,rfl,rfl,rfl⟩ (zah _) rfl rfl (by simp[Out.below,SV.below]) ⟨zaq (by omega) _ _ _,zay _ _ _,tv⟩ ⟨Fz.r F,?_,?_,tv⟩
  ·exact zlg (fun k=>rfl) u
  ·exact zqa u
theorem zje{w:Int}(b:0<=w/\w<=1000000):IntKind.i64.wrap ((IntKind.i64.wrap (w+1)).tdiv 2)=(w+1) / 2/\(IntKind.i64.wrap (w+1)).tdiv 2=(w+1) / 2:=by
 have h1:IntKind.i64.wrap (w+1)=w+1:=zaj (by omega) (by omega);have a:(w+1).tdiv 2=(w+1) / 2:=jv (by omega);rw[h1,a];exact⟨zaj (by omega) (by omega),rfl⟩
theorem zqg(F:Fz)(w h:Int)(a:Int)(c:Nat)(caps:Nat->Nat)(g:0<=w/\w<=1000000)(e:0<=h/\h<=1000000):
  Ct Tryz.prog 194 [.va (.ptr ⟨1,0,0,0,0⟩),.va (.int .i64 a)] F (valM ⟨false,[],w,h,[]⟩ c caps) 4 (stepV F ⟨false,[],(w+1) / 2,(h+1) / 2,[]⟩):=by
 have f:∀d b,d=(w+1) / 2->b=(h+1) / 2->subE (some (valE ⟨false,[],d,b,[]⟩ 2 c)) ((valE ⟨false,[],(w+1) / 2,(h+1) / 2,[]⟩ 2 c).ren (sig [])):=by
  intro d b i j;subst i;subst j;rfl
 refine ct_of hΘ Tryz.func194 rfl (by decide) _ _ rfl rfl rfl ?_;refine drawP hΘ mixed (lk [0,1,2,3,4,5,6,7,8,9,10,11,12,13] .done) [1] (by kernel_rfl) ?_;conv=>whnf
 repeat' ((conv=>whnf);first
  |refine⟨rfl,?_⟩
  |refine⟨Fz.r _,rfl,?_⟩
  |refine⟨Fz.r _,rfl,rfl,?_⟩
  |refine⟨⟨by simp,by simp⟩,?_⟩
  |fail)
 refine⟨(by omega),?_⟩;conv=>whnf
 repeat' ((conv=>whnf);first
  |refine⟨rfl,?_⟩
  |refine⟨Fz.r _,rfl,?_⟩
  |refine⟨Fz.r _,rfl,rfl,?_⟩
  |refine⟨⟨by simp,by simp⟩,?_⟩
  |fail)
 refine⟨(by omega),?_⟩;conv=>whnf
 refine brd (by simp) ?_;refine clean [] (.ret (.tup [])) F (valM ⟨false,[],(w+1) / 2,(h+1) / 2,[]⟩ c caps) 4 ⟨Fz.r F,rfl,rfl,rfl,c,caps,rfl⟩ (zah _) rfl rfl (by simp[Out.below,SV.below]) (zjq _ _ _) ⟨Fz.r F,?_,tv⟩
 first
 |exact f _ _ (zje g).1 (zje e).1
 |exact f _ _ (zje g).2 (zje e).2
