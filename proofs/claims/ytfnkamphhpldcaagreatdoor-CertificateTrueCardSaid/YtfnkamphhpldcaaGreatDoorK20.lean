import Derived.Test.YtfnkamphhpldcaaGreatDoorK19
import Derived.Test.YtfnkamphhpldcaaGreatDoorK15
set_option maxHeartbeats 64000000
namespace Go.Proofs.YtfnkamphhpldcaaGreatDoor
open Go Sx
set_option maxRecDepth 100000
theorem zfr{τ μ:Mu}{a b j i i' c:Nat}{l:List UInt8}(h:τ a 0=(j,0))(d:μ b 0=(j,0)):subE (some ((outC i' a c l).ren τ)) ((outC i b c l).ren μ):=by
 rw[zkq h,zkq d];exact rfl
theorem z0l{p:Int}{x:Ln}(h:x.2.length<=1000):(lineW p x).length<=74545:=by
 unfold lineW;have h1:=zcl x.1;have a:=za7 x.2;rw[qd];split
 ·omega
 ·simp;omega
theorem zjt{p:Int}:∀(l:List Ln),(∀x∈l,x.2.length<=1000)->(l.map (lineW p)).flatten.length<=74545*l.length
 |[],_=>by simp
 |x::r,h=>by
  have h1:=z0l (p:=p) (h x (by simp));have b:=zjt (p:=p) r (fun y a=>h y (by simp[a]));simp only[jm,jy,qd,qj];omega
theorem zpn(Y:PFun)(F:Fz)(L:List Ln)(w h:Int)(bits:List UInt8)(c:Nat)(caps:Nat->Nat)(p:Int)(hp:¬6<=p)(ad:L≠[])(hl:L.length<=1000)(hx:∀x∈L,x.1.length<=70000/\x.2.length<=1000):
  Ct Tryz.prog 131 [valV ⟨false,L,w,h,bits⟩ 1 c,.va (.int .i64 p)] F (valH ⟨false,L,w,h,bits⟩ c caps) 3 (fun o _ K n0=>n0=3/\o=.ret (.va (.str (zbp p ⟨false,L,w,h,bits⟩)))/\K=valH ⟨false,L,w,h,bits⟩ c caps):=by
 have hW:zbp p ⟨false,L,w,h,bits⟩=zad [(L.length:Int)]++(L.map (lineW p)).flatten:=by rw[zbp,if_neg (by simp),if_neg hp]
 rcases L with _ | ⟨e,d⟩
 ·exact absurd rfl ad
 refine ctS Tryz.func131 ?_;refine brj hp ?_;refine zat 5 (fun _=>.arr 3 1 ([((d.length+1:Nat):Int)].map encI) 1) ?_;intro b1 F1 l1 ab;have aa:=zlu Y F1 _ [((d.length+1:Nat):Int)] [] 0 (Sl.new (l:=[((d.length+1:Nat):Int)]) (cap:=1) (ab 0 rfl)) (by simp) (by simp);refine useS aa [(1,4),(2,5)] ⟨zbf (by omega) _ _ _,zab zaa _ _ _ _ _,tv⟩ ⟨rfl,rfl,tv⟩ ?_;rintro s V K n0 E ⟨rfl,rfl,rfl,c1,rfl⟩;conv=>whnf
 refine zak hΘ (X:={ x:Nat×List UInt8×Nat // x.1<=d.length+1/\x.2.1=zad [((d.length+1:Nat):Int)]++(((e::d).take x.1).map (lineW p)).flatten }) (fun x=>[(21,.va (.int .i64 x.1.1))]) (9::jr 22 14 [])
  (fun x=>[(0,.frz F1),(1,zbq 2 caps c (e::d)),(2,famE caps (e::d)),(4,outC 1 7 x.1.2.2 x.1.2.1),(6,.gone),(7,gE 5 1 encB x.1.2.2 x.1.2.1)]) 8 (fun x=>d.length+1 - x.1.1) ⟨(0,[]++zad [((d.length+1:Nat):Int)],c1),by simp⟩
  (fun W Z=>leI [(7,6)] W Z rfl ⟨tv,zaq (by omega) _ _ _,zau _ _ _,zbf (by omega) _ _ _,tv,zab zaa _ _ _ _ _,tv⟩ ⟨rfl,tv⟩ ⟨Fz.r F1,zbe (fun k=>rfl),zb8 (μ:=sig [(7,6)]) (caps:=caps) (l:=e::d),zfr (i:=1) (i':=1) (a:=3) (b:=7) (j:=6) (by rfl) (by rfl),zbt zaa,tv⟩) ?_
 rintro⟨⟨k,ob,cb⟩,hk,G⟩ W Z;replace hk:k<=d.length+1:=hk;replace G:ob=zad [((d.length+1:Nat):Int)]++(((e::d).take k).map (lineW p)).flatten:=G
 have ag:ob.length<=100000000000:=by
  have h1:=za7 [((d.length+1:Nat):Int)];have h2:=zjt (p:=p) ((e::d).take k) (fun x ae=>(hx x (yd ae)).2);have h3:((e::d).take k).length<=1000:=by rw[qo];omega
  rw[G,qd];simp only[qj,qu]at h1;omega
 refine br (fun gb=>?_) (fun gb=>?_)
 ·have gk:k < d.length+1:=by
   have K:(k:Int) < ((d.length+1:Nat):Int):=od gb;omega
  clear gb;have S:k < (e::d).length:=gk;have I:=hx _ (qw S);have ac:∃t n,(e::d)[k]=(t,n):=⟨_,_,rfl⟩
  obtain⟨t,n,D⟩:=ac;rw[D]at I;replace I:t.length<=70000/\n.length<=1000:=I;have U:=zes 2 caps 0 (e::d) k (t,n) (by rw[qa S,D])
  have f:(ob++(if p=1 then(putSR t).1 else []))++zad n=zad [((d.length+1:Nat):Int)]++(((e::d).take (k+1)).map (lineW p)).flatten:=by
   rw[zb3 S,D,lineW,G];simp only[qp]
  refine⟨rfl,⟨by simp,by show(k:Int) < ((d.length+1:Nat):Int);omega⟩,rfl,_,by show(zb1 2 caps 0 (e::d))[0+(k:Int).toNat]? =_;rw[qx,qk];exact U,?_⟩;refine br (fun g1=>?_) (fun g1=>?_)
  ·have R:p=1:=od g1;rw[if_pos R]at f;have ah:=zcl t;have g:(ob++(putSR t).1).length<=1000000000000:=by rw[qd];omega
   refine useS (zs5 Y F1 t ob cb (by omega) (by omega)) [(1,4),(2,7)] ⟨zbf (by omega) _ _ _,zab zaa _ _ _ _ _,tv⟩ ⟨ziz (i:=1) (i':=1) (j:=2) (j':=7) (by rfl),zaj zaa (zao _ _ _ _),tv⟩ ?_;rintro s V K n1 E ⟨rfl,rfl,rfl,c2,rfl⟩;rcases n with _ | ⟨n0,J⟩
   ·refine useS (zlu Y F1 _ [] (ob++(putSR t).1) c2 Sl.nil (by simp) g) [(1,4),(2,9)] ⟨zbf (by omega) _ _ _,zab zaa _ _ _ _ _,tv⟩ ⟨zfr (i:=1) (i':=1) (a:=3) (b:=2) (j:=9) (by rfl) (by rfl),zbt zaa,tv⟩ ?_;rintro s V K n1 E ⟨rfl,rfl,rfl,Q,rfl⟩
    exact⟨⟨(k+1,(ob++(putSR t).1)++zad [],Q),by show k+1<=d.length+1;omega,f⟩,by show d.length+1 - (k+1) < d.length+1 - k;omega,
     leR [(7,10)] W Z rfl ⟨tv,zaq (by omega) _ _ _,zau _ _ _,zbf (by omega) _ _ _,tv,zab zaa _ _ _ _ _,tv⟩ ⟨cnt (by omega),tv⟩
     ⟨Fz.r F1,zbe (fun k=>rfl),zb8 (μ:=sig [(7,10)]) (caps:=caps) (l:=e::d),zfr (i:=1) (i':=1) (a:=3) (b:=7) (j:=10) (by rfl) (by rfl),zbt zaa,tv⟩⟩
   ·refine lend 2 (fun k=>(famE caps (e::d)).at k) rfl rfl rfl (fun k _=>zcx _ _ _) (fun k _=>zb7 _ _ _) ?_;intro bf O af T;have A:=zjm caps (l:=e::d) (k:=k) (x:=(t,n0::J)) (by rw[qa S,D]);have B:(famE caps (e::d)).has k:=⟨S,by show(!((((e::d).map (·.2)).getD k []).isEmpty))=true;rw[A];rfl⟩
    have m:O (bf k)=some ((famE caps (e::d)).at k):=T k B;have u:(famE caps (e::d)).at k=.arr 3 1 ((n0::J).map encI) (caps k):=by show SB.arr 3 1 ((((e::d).map (·.2)).getD k []).map encI) (caps k)=_;rw[A]
    rw[u,<-qx k]at m;refine useS (zlu Y O _ (n0::J) (ob++(putSR t).1) c2 (Sl.new (l:=n0::J) (cap:=caps (0+k)) m) (by simp at I ⊢;omega) g) [(1,4),(2,9)] ⟨zbf (by omega) _ _ _,zab zaa _ _ _ _ _,tv⟩ ⟨zfr (i:=1) (i':=1) (a:=3) (b:=2) (j:=9) (by rfl) (by rfl),zbt zaa,tv⟩ ?_;rintro s V K n1 E ⟨rfl,rfl,rfl,Q,rfl⟩;refine⟨O,rfl,Fz.r _,rfl,?_⟩
    exact⟨⟨(k+1,(ob++(putSR t).1)++zad (n0::J),Q),by show k+1<=d.length+1;omega,f⟩,by show d.length+1 - (k+1) < d.length+1 - k;omega,
     leR [(7,10)] W Z rfl ⟨tv,zaq (by omega) _ _ _,zau _ _ _,zbf (by omega) _ _ _,tv,zab zaa _ _ _ _ _,tv⟩ ⟨cnt (by omega),tv⟩
     ⟨Fz.r F1,zbe (fun k=>rfl),zb8 (μ:=sig [(7,10)]) (caps:=caps) (l:=e::d),zfr (i:=1) (i':=1) (a:=3) (b:=7) (j:=10) (by rfl) (by rfl),zbt zaa,tv⟩⟩
  ·have R:¬p=1:=oe g1;rw[if_neg R,q5]at f;have g:ob.length<=1000000000000:=by omega
   rcases n with _ | ⟨n0,J⟩
   ·refine useS (zlu Y F1 _ [] (ob) cb Sl.nil (by simp) g) [(1,4),(2,7)] ⟨zbf (by omega) _ _ _,zab zaa _ _ _ _ _,tv⟩ ⟨ziz (i:=1) (i':=1) (j:=2) (j':=7) (by rfl),zaj zaa (zao _ _ _ _),tv⟩ ?_;rintro s V K n1 E ⟨rfl,rfl,rfl,Q,rfl⟩
    exact⟨⟨(k+1,(ob)++zad [],Q),by show k+1<=d.length+1;omega,f⟩,by show d.length+1 - (k+1) < d.length+1 - k;omega,
     leR [(7,9)] W Z rfl ⟨tv,zaq (by omega) _ _ _,zau _ _ _,zbf (by omega) _ _ _,tv,zab zaa _ _ _ _ _,tv⟩ ⟨cnt (by omega),tv⟩
     ⟨Fz.r F1,zbe (fun k=>rfl),zb8 (μ:=sig [(7,9)]) (caps:=caps) (l:=e::d),zfr (i:=1) (i':=1) (a:=3) (b:=7) (j:=9) (by rfl) (by rfl),zbt zaa,tv⟩⟩
   ·refine lend 2 (fun k=>(famE caps (e::d)).at k) rfl rfl rfl (fun k _=>zcx _ _ _) (fun k _=>zb7 _ _ _) ?_;intro bf O af T;have A:=zjm caps (l:=e::d) (k:=k) (x:=(t,n0::J)) (by rw[qa S,D]);have B:(famE caps (e::d)).has k:=⟨S,by show(!((((e::d).map (·.2)).getD k []).isEmpty))=true;rw[A];rfl⟩
    have m:O (bf k)=some ((famE caps (e::d)).at k):=T k B;have u:(famE caps (e::d)).at k=.arr 3 1 ((n0::J).map encI) (caps k):=by show SB.arr 3 1 ((((e::d).map (·.2)).getD k []).map encI) (caps k)=_;rw[A]
    rw[u,<-qx k]at m;refine useS (zlu Y O _ (n0::J) (ob) cb (Sl.new (l:=n0::J) (cap:=caps (0+k)) m) (by simp at I ⊢;omega) g) [(1,4),(2,7)] ⟨zbf (by omega) _ _ _,zab zaa _ _ _ _ _,tv⟩ ⟨ziz (i:=1) (i':=1) (j:=2) (j':=7) (by rfl),zaj zaa (zao _ _ _ _),tv⟩ ?_;rintro s V K n1 E ⟨rfl,rfl,rfl,Q,rfl⟩;refine⟨O,rfl,Fz.r _,rfl,?_⟩
    exact⟨⟨(k+1,(ob)++zad (n0::J),Q),by show k+1<=d.length+1;omega,f⟩,by show d.length+1 - (k+1) < d.length+1 - k;omega,
     leR [(7,9)] W Z rfl ⟨tv,zaq (by omega) _ _ _,zau _ _ _,zbf (by omega) _ _ _,tv,zab zaa _ _ _ _ _,tv⟩ ⟨cnt (by omega),tv⟩
     ⟨Fz.r F1,zbe (fun k=>rfl),zb8 (μ:=sig [(7,9)]) (caps:=caps) (l:=e::d),zfr (i:=1) (i':=1) (a:=3) (b:=7) (j:=9) (by rfl) (by rfl),zbt zaa,tv⟩⟩
 ·have gk:k=d.length+1:=by
   have K:¬(k:Int) < ((d.length+1:Nat):Int):=oe gb;omega
  clear gb
  have M:ob=zbp p ⟨false,e::d,w,h,bits⟩:=by
   rw[hW,G,gk];have:(e::d).take (d.length+1)=e::d:=qh (by simp);rw[this];rfl
  rcases ob with _ | ⟨y,q⟩
  ·exact zek M l1 rfl rfl rfl
  ·refine⟨rfl,by simp,(y::q).map encB,by show(((y::q).map encB).drop 0).take (q.length+1)=_;rw[y8,qh (by simp)],y::q,rfl,?_⟩;exact zek M l1 rfl rfl rfl
theorem zr7(s:PFun)(F:Fz)(w h:Int)(bits:List UInt8)(c:Nat)(caps:Nat->Nat)(p:Int)(m:¬6<=p):
  Ct Tryz.prog 131 [valV ⟨false,[],w,h,bits⟩ 1 c,.va (.int .i64 p)] F (valH ⟨false,[],w,h,bits⟩ c caps) 3 (fun o _ d n0=>n0=3/\o=.ret (.va (.str (zbp p ⟨false,[],w,h,bits⟩)))/\d=valH ⟨false,[],w,h,bits⟩ c caps):=by
 have e:zbp p ⟨false,[],w,h,bits⟩=[]++zad [0]:=by rw[zbp,if_neg (by simp),if_neg m];exact q5 (zad [0])
 obtain⟨j,i⟩:∃j,[]++zad [0]=j:=⟨_,rfl⟩
 refine ctS Tryz.func131 ?_;refine brj m ?_;refine zat 5 (fun _=>.arr 3 1 ([(0:Int)].map encI) 1) ?_;intro u F1 n f;have a:=zlu s F1 _ [0] [] 0 (Sl.new (l:=[(0:Int)]) (cap:=1) (f 0 rfl)) (by simp) (by simp);rw[i]at a e;rcases j with _ | ⟨x,r⟩
 ·refine useS a [(1,4),(2,5)] ⟨zbf (by omega) _ _ _,zab zaa _ _ _ _ _,tv⟩ ⟨rfl,rfl,tv⟩ ?_;rintro b k d n0 g ⟨rfl,rfl,rfl,q,rfl⟩;conv=>whnf
  refine rounds hΘ 1 ?_;refine brd (by decide) ?_;exact zek e.symm n rfl rfl rfl
 ·refine useS a [(1,4),(2,5)] ⟨zbf (by omega) _ _ _,zab zaa _ _ _ _ _,tv⟩ ⟨rfl,rfl,tv⟩ ?_;rintro b k d n0 g ⟨rfl,rfl,rfl,q,rfl⟩;conv=>whnf
  refine rounds hΘ 1 ?_;refine brd (by decide) ⟨rfl,by simp,(x::r).map encB,convR _ (x::r) _ rfl,x::r,rfl,?_⟩;exact zek e.symm n rfl rfl rfl
structure Fits(v:Val):Prop where
 h1:v.lines.length<=1000
 h2:∀x∈v.lines,x.1.length<=70000/\x.2.length<=1000
 h3:v.bits.length<=70000
theorem z8g(e:PFun)(F:Fz)(v:Val)(c:Nat)(caps:Nat->Nat)(p:Int)(f:Fits v)(k:p<=8):
  Ct Tryz.prog 131 [valV v 1 c,.va (.int .i64 p)] F (valH v c caps) 3 (fun o _ i n0=>n0=3/\o=.ret (.va (.str (zbp p v)))/\i=valH v c caps):=by
 by_cases a:v.lost=true
 ·exact zr6 F v c caps p a
 ·have a:v.lost=false:=by simpa using a
  by_cases g:6<=p
  ·exact zmk e F v c caps p a (by omega) f.h3
  ·obtain⟨d,L,w,h,bits⟩:=v;replace a:d=false:=a;subst a;by_cases b:L=[]
   ·subst b;exact zr7 e F w h bits c caps p g
   ·exact zpn e F L w h bits c caps p g b f.h1 f.h2
theorem zuj(r:List Int):∀x:Int,(r.foldl (fun m x=>if x < m then x else m) x∈x::r)/\∀y∈x::r,r.foldl (fun m x=>if x < m then x else m) x<=y:=by
 induction r with
 |nil=>intro x;simp
 |cons a r ih=>
  intro x;obtain⟨h1,b⟩:=ih (if a < x then a else x);simp only[qag];refine⟨?_,?_⟩
  ·rcases qn.1 h1 with h | h
   ·rw[h];split<;>simp
   ·exact yl _ (yl _ h)
  ·intro y hy;have c:=b _ qbm;rcases qn.1 hy with rfl | hy
   ·refine qa6 c ?_;split<;>omega
   ·rcases qn.1 hy with rfl | hy
    ·refine qa6 c ?_;split<;>omega
    ·exact b y (yl _ hy)
theorem zuk(r:List Int):∀x:Int,(r.foldl (fun m x=>if x>m then x else m) x∈x::r)/\∀y∈x::r,y<=r.foldl (fun m x=>if x>m then x else m) x:=by
 induction r with
 |nil=>intro x;simp
 |cons a r ih=>
  intro x;obtain⟨h1,b⟩:=ih (if a>x then a else x);simp only[qag];refine⟨?_,?_⟩
  ·rcases qn.1 h1 with h | h
   ·rw[h];split<;>simp
   ·exact yl _ (yl _ h)
  ·intro y hy;have c:=b _ qbm;rcases qn.1 hy with rfl | hy
   ·refine qa6 ?_ c;split<;>omega
   ·rcases qn.1 hy with rfl | hy
    ·refine qa6 ?_ c;split<;>omega
    ·exact b y (yl _ hy)
theorem zqy{s:List Int}(h:s≠[]):mn s∈s:=by
 cases s with
 |nil=>exact absurd rfl h
 |cons x r=>exact(zuj r x).1
theorem mn_le{s:List Int}{y:Int}(h:y∈s):mn s<=y:=by
 cases s with
 |nil=>cases h
 |cons x r=>exact(zuj r x).2 y h
theorem zq0{s:List Int}(h:s≠[]):mx s∈s:=by
 cases s with
 |nil=>exact absurd rfl h
 |cons x r=>exact(zuk r x).1
theorem le_mx{s:List Int}{y:Int}(h:y∈s):y<=mx s:=by
 cases s with
 |nil=>cases h
 |cons x r=>exact(zuk r x).2 y h
theorem mn_eq{s:List Int}{m:Int}(h:m∈s)(a:∀y∈s,m<=y):mn s=m:=
 Int.le_antisymm (mn_le h) (a _ (zqy (by intro e;rw[e]at h;cases h)))
theorem mx_eq{s:List Int}{m:Int}(h:m∈s)(a:∀y∈s,y<=m):mx s=m:=
 Int.le_antisymm (a _ (zq0 (by intro e;rw[e]at h;cases h))) (le_mx h)
theorem zgv(κ:Int)(a b:List Stp):sel κ (a++b)=sel κ a++sel κ b:=by simp[sel]
theorem ydt{κ ν:Int}{l:List Stp}:ν∈sel κ l↔(κ,ν)∈l:=by
 simp only[sel,jj,qdg,decide_eq_true_eq];constructor
 ·rintro⟨⟨k,n⟩,⟨h1,a⟩,b⟩;simp only at a b;subst a;subst b;exact h1
 ·intro h;exact⟨(κ,ν),⟨h,rfl⟩,rfl⟩
theorem zjf{p:Int}{l:List Stp}(h:za2 p l=true):∀s∈l,zbl p s=true:=by
 simp only[za2,qg]at h;exact fun s a=>qq.1 h.2.2 s a
theorem zpk{p:Int}{l:List Stp}(h:za2 p l=true):1<=p/\p<=8:=by
 simp only[za2,qg,decide_eq_true_eq]at h;exact h.1
theorem z8e{p:Int}{l:List Stp}(b:1<=p/\p<=8)(a:l.length<=64)(h:∀s∈l,zbl p s=true):za2 p l=true:=by
 simp only[za2,qg,decide_eq_true_eq];exact⟨b,a,qq.2 h⟩
theorem z0r{κ:Int}{s:List Int}{t:Stp}(h:t∈piece κ s):t.1=κ/\t.2∈s:=by
 unfold piece at h;split at h
 ·cases h
 ·rename_i a;split at h
  ·rename_i b;simp only[qz]at h;subst h;exact⟨b.symm,zq0 a⟩
  ·split at h
   ·rename_i c;simp only[jj]at h;obtain⟨n,d,rfl⟩:=h;exact⟨c.symm,yd d⟩
   ·simp only[qz]at h;subst h;exact⟨rfl,zqy a⟩
def cut(κ:Int)(s:List Int):List Int:=(piece κ s).map (·.2)
theorem z2r(κ b:Int)(s:List Int):sel κ (piece b s)=if b=κ then cut κ s else []:=by
 have h1:∀t∈piece b s,t.1=b:=fun t a=>(z0r a).1
 split
 ·rename_i h;subst h;unfold sel cut;rw[List.filter_eq_self.2 (fun t a=>by simp[h1 t a])]
 ·rename_i h;unfold sel;rw[List.filter_eq_nil_iff.2 (fun t a=>by simp[h1 t a,h])];rfl
theorem zku{l:List Stp}(a:sel 6 l=[])(κ:Int)(b:κ=1\/κ=2\/κ=3\/κ=4\/κ=5\/κ=6):sel κ (normS l)=if κ=6 then []else cut κ (sel κ l):=by
 unfold normS;rw[if_pos a];simp only[pieces,jy,qah,qv,q5,zgv,z2r];rcases b with rfl | rfl | rfl | rfl | rfl | rfl<;>simp
theorem zy9(κ:Int):cut κ []=[]:=rfl
theorem zwr{κ:Int}{s:List Int}:cut κ s=[]↔s=[]:=by
 constructor
 ·intro h;apply Classical.byContradiction;intro a;unfold cut piece at h;rw[if_neg a]at h;split at h
  ·cases h
  ·split at h
   ·simp at h;exact a h
   ·cases h
 ·rintro rfl;rfl
theorem z1a{κ:Int}(s t:List Int):piece κ (cut κ s++cut κ t)=piece κ (s++t):=by
 by_cases a:s=[]
 ·subst a;rw[zy9,qv,qv];by_cases b:t=[]
  ·subst b;rfl
  ·have j:¬cut κ t=[]:=fun h=>b (zwr.1 h)
   by_cases c:κ=3
   ·simp[piece,cut,b,c,mx]
   ·by_cases d:κ=5
    ·subst d;simp[piece,cut,b,Function.comp_def,qbj]
    ·simp[piece,cut,b,c,d,mn]
 ·by_cases b:t=[]
  ·subst b;rw[zy9,q5,q5];by_cases c:κ=3
   ·simp[piece,cut,a,c,mx]
   ·by_cases d:κ=5
    ·subst d;simp[piece,cut,a,Function.comp_def,qbj]
    ·simp[piece,cut,a,c,d,mn]
  ·by_cases c:κ=3
   ·subst c
    have e:mx (s++t)=mx ([mx s]++[mx t]):=by
     refine mx_eq ?_ ?_
     ·rcases qn.1 (zq0 (s:=[mx s]++[mx t]) (by simp))with h | h
      ·rw[h];exact qbf _ (zq0 a)
      ·rw[qz.1 h];exact qbs _ (zq0 b)
     ·intro y f;rcases yk.1 f with h | h
      ·exact qa6 (le_mx h) (le_mx (by simp))
      ·exact qa6 (le_mx h) (le_mx (by simp))
    simp[piece,cut,a,b,e]
   ·by_cases d:κ=5
    ·subst d;have g:∀s:List Int,s≠[]->cut 5 s=s.take 5:=fun s a=>by simp[cut,piece,a,Function.comp_def]
     rw[g s a,g t b];have e:∀u:List Int,u≠[]->piece 5 u=(u.take 5).map (fun n=>((5:Int),n)):=fun u i=>by simp[piece,i]
     rw[e _ (by simp[a]),e _ (by simp[a])]
     congr 1
     rw[List.take_append,List.take_append,qbj,qbj,qo]
     congr 2
     omega
    ·have e:mn (s++t)=mn ([mn s]++[mn t]):=by
      refine mn_eq ?_ ?_
      ·rcases qn.1 (zqy (s:=[mn s]++[mn t]) (by simp))with h | h
       ·rw[h];exact qbf _ (zqy a)
       ·rw[qz.1 h];exact qbs _ (zqy b)
      ·intro y f;rcases yk.1 f with h | h
       ·exact qa6 (mn_le (by simp)) (mn_le h)
       ·exact qa6 (mn_le (by simp)) (mn_le h)
     simp[piece,cut,a,b,c,d,e]
theorem zvb{l:List Stp}(h:sel 6 l=[]):normS l=(pieces (sel 1 l) (sel 2 l) (sel 3 l) (sel 4 l) (sel 5 l)).flatten:=if_pos h
theorem zgd{l:List Stp}(h:sel 6 l≠[]):normS l=[(6,0)]:=if_neg h
theorem zvx:sel 6 [((6:Int),(0:Int))]=[0]:=rfl
theorem zlo(a b:List Stp):normS (normS a++normS b)=normS (a++b):=by
 by_cases c:sel 6 a=[]
 ·by_cases hb:sel 6 b=[]
  ·have h:sel 6 (normS a++normS b)=[]:=by rw[zgv,zku c 6 (by simp),zku hb 6 (by simp)];rfl
   have f:sel 6 (a++b)=[]:=by rw[zgv,c,hb];rfl
   have e:∀κ,(κ=1\/κ=2\/κ=3\/κ=4\/κ=5\/κ=6)->κ≠6->piece κ (sel κ (normS a++normS b))=piece κ (sel κ (a++b)):=fun κ g d=>by
    rw[zgv,zgv,zku c κ g,zku hb κ g,if_neg d,if_neg d,z1a]
   rw[zvb h,zvb f,pieces,pieces,e 1 (by simp) (by decide),e 2 (by simp) (by decide),e 3 (by simp) (by decide),e 4 (by simp) (by decide),e 5 (by simp) (by decide)]
  ·rw[zgd hb,zgd (l:=normS a++[(6,0)]) (by rw[zgv,zvx];simp),zgd (l:=a++b) (by rw[zgv];simp[hb])]
 ·rw[zgd c,zgd (l:=[(6,0)]++normS b) (by rw[zgv,zvx];simp),zgd (l:=a++b) (by rw[zgv];simp[c])]
def behind(a:List Stp):List (List Stp):=[a,[(6,0)],[],[(5,0)],[(5,0),(5,0)],[(5,0),(5,0),(5,0)],[(5,0),(5,0),(5,0),(5,0)],[(5,0),(5,0),(5,0),(5,0),(5,0)]]
theorem znd{B:Nat}{caps:Nat->Nat}{t:List UInt8}{n a:List Int}(b:n.length=a.length):∀(j:Nat) (L:List Ln) (i:Nat),L[i]? =some (t,n)->zb1 B caps j (L.set i (t,a))=zb1 B caps j L
 |j,y::r,0,h=>by
  simp at h;subst h;rw[qbb,zb1,zb1]
  congr 2
  show[nA B j (caps j) a]=[nA B j (caps j) n];cases n<;>cases a<;>simp_all[nA]
 |j,y::r,i+1,h=>by
  rw[qcz,zb1,zb1,znd b (j+1) r i (by simpa using h)]
theorem znf{B:Nat}{caps:Nat->Nat}{c:Nat}{t:List UInt8}{n a:List Int}(b:n.length=a.length){L:List Ln}{i:Nat}(h:L[i]? =some (t,n)):zbq B caps c (L.set i (t,a))=zbq B caps c L:=by
 unfold zbq;rw[znd b 0 L i h];cases L with
 |nil=>simp at h
 |cons x r=>cases i<;>rfl
theorem zuf{L:List Ln}{k:Nat}:(L.map (·.2)).getD k []=((L[k]?).map (·.2)).getD []:=by
 rw[y4,qt]
theorem z5d{caps:Nat->Nat}{t:List UInt8}{n d:List Int}(o:n.length=d.length){L:List Ln}{i:Nat}(h:L[i]? =some (t,n))(f:n≠[]):
  famE caps (L.set i (t,d))=.fam L.length (fun k=>!((L.map (·.2)).getD k []).isEmpty) (fun k=>if k=i then .arr 3 1 (d.map encI) (caps i)else .arr 3 1 (((L.map (·.2)).getD k []).map encI) (caps k)):=by
 have m:i < L.length:=(ql.1 h).1
 have g:∀k,((L.set i (t,d)).map (·.2)).getD k []=if k=i then d else(L.map (·.2)).getD k []:=by
  intro k;rw[zuf,zuf,qas];by_cases c:i=k
  ·subst c;rw[if_pos rfl,if_pos m,if_pos rfl];rfl
  ·rw[if_neg c,if_neg (fun e=>c e.symm)]
 unfold famE
 have j:(fun k=>!(((L.set i (t,d)).map (·.2)).getD k []).isEmpty)=(fun k=>!((L.map (·.2)).getD k []).isEmpty):=by
  funext k
  rw[g];by_cases c:k=i
  ·subst c;rw[if_pos rfl,zjm caps h];cases n with
   |nil=>exact absurd rfl f
   |cons a r=>cases d with
    |nil=>simp at o
    |cons b r'=>rfl
  ·rw[if_neg c]
 have l:(fun k=>SB.arr 3 1 ((((L.set i (t,d)).map (·.2)).getD k []).map encI) (caps k))=(fun k=>if k=i then .arr 3 1 (d.map encI) (caps i)else .arr 3 1 (((L.map (·.2)).getD k []).map encI) (caps k)):=by
  funext k
  rw[g];by_cases c:k=i
  ·subst c;rw[if_pos rfl,if_pos rfl]
  ·rw[if_neg c,if_neg c]
 rw[qax,j,l]
theorem z8p{caps:Nat->Nat}{t:List UInt8}{n c:List Int}(d:n.length=c.length){L:List Ln}{i:Nat}(h:L[i]? =some (t,n))(b:n≠[]){a:List (List SA)}(e:a=c.map encI){μ:Mu}:
  subE (some (.fam L.length (fun k=>!((L.map (·.2)).getD k []).isEmpty) (fun k=>if k=i then .arr 3 1 a (caps i)else .arr 3 1 (((L.map (·.2)).getD k []).map encI) (caps k)))) ((famE caps (L.set i (t,c))).ren μ):=by
 subst e;rw[zkl,z5d d h b];cases L with
 |nil=>simp at h
 |cons x r=>exact⟨rfl,rfl,rfl⟩
theorem zpa{α:Type}{L:List α}{i:Nat}{x:α}(h:L[i]? =some x):L.set i x=L:=by
 apply qbe;intro k;rw[qas];by_cases a:i=k
 ·subst a;rw[if_pos rfl,if_pos (ql.1 h).1,h]
 ·rw[if_neg a]
def stepK(F:Fz)(c:Nat)(caps:Nat->Nat)(L:List Ln):Out->Fz->List (Nat×Ent)->Nat->Prop:=fun o a b n0=>a=F/\n0=3/\o=.ret (.tup [])/\b=[(1,zbq 2 caps c L),(2,famE caps L)]
def limN(a:Int):List Int->List Int
 |[]=>[]
 |x::r=>(if x>a then 0 else x)::r
theorem z5v(F:Fz)(L:List Ln)(i c:Nat)(caps:Nat->Nat)(t:List UInt8)(x a:Int)(r:List Int)(h:L[i]? =some (t,x::r)):
  Ct Tryz.prog 193 [.va (.ptr ⟨1,0,i,2,0⟩),.va (.int .i64 a)] F [(1,zbq 2 caps c L),(2,famE caps L)] 3
   (stepK F c caps (L.set i (t,limN a (x::r)))):=by
 have b:=zes 2 caps 0 L i _ h;rw[qx]at b;have o:i < L.length:=(ql.1 h).1;have f:=zjm caps h;rcases L with _ | ⟨d,e⟩
 ·exact absurd o (by simp)
 have s:((x::r).length=(limN a (x::r)).length):=rfl;have n:=znf (B:=2) (caps:=caps) (c:=c) s h;have m:∀μ:Mu,(∀k,μ 2 k=(2,k))->subE (some (zbq 2 caps c (d::e))) ((zbq 2 caps c ((d::e).set i (t,limN a (x::r)))).ren μ):=fun μ y=>by rw[n];exact zbe y
 have p:decide (a < x)=false->∀μ:Mu,subE (some (famE caps (d::e))) ((famE caps ((d::e).set i (t,limN a (x::r)))).ren μ):=fun g μ=>by
  have w:(d::e).set i (t,limN a (x::r))=d::e:=by rw[limN,if_neg (oe g)];exact zpa h
  rw[w];exact zb8
 have u:decide (a < x)=true->(List.map encI ((List.map (fun x:Ln=>x.snd) (d::e)).getD i [])).set 0 [.int .i64 0]=(limN a (x::r)).map encI:=fun g=>by
  rw[f,limN,if_pos (od g)];rfl
 refine ctS Tryz.func193 ?_;refine⟨rfl,_,b,rfl,⟨by simp,by show(0:Int) < ((r.length+1:Nat):Int);omega⟩,?_⟩;conv=>whnf
 have j:(!((List.map (fun x:Ln=>x.snd) (d::e)).getD i []).isEmpty)=true:=by rw[f];rfl
 have l:(List.map encI ((List.map (fun x:Ln=>x.snd) (d::e)).getD i []))[0]? =some [.int .i64 x]:=by rw[f];rfl
 have q:(List.map encI ((List.map (fun x:Ln=>x.snd) (d::e)).getD i []))=encI x::r.map encI:=by rw[f];rfl
 refine⟨⟨o,j⟩,_,l,?_⟩;refine br (fun g=>?_) (fun g=>?_)
 ·refine⟨rfl,_,b,rfl,⟨by simp,by show(0:Int) < ((r.length+1:Nat):Int);omega⟩,⟨o,j⟩,_,l,?_⟩;refine clean [] (.ret (.tup [])) F [(1,zbq 2 caps c ((d::e).set i (t,limN a (x::r)))),(2,famE caps ((d::e).set i (t,limN a (x::r))))] 3 ⟨Fz.r F,rfl,rfl,rfl,rfl⟩ (zal _) rfl rfl (by simp[Out.below,SV.below]) ⟨zaq (by omega) _ _ _,zau _ _ _,tv⟩ ⟨Fz.r F,?_,?_,tv⟩
  ·exact m _ (fun k=>rfl)
  ·refine z8p s h (by simp) ?_;exact u g
 ·refine clean [] (.ret (.tup [])) F [(1,zbq 2 caps c ((d::e).set i (t,limN a (x::r)))),(2,famE caps ((d::e).set i (t,limN a (x::r))))] 3 ⟨Fz.r F,rfl,rfl,rfl,rfl⟩ (zal _) rfl rfl (by simp[Out.below,SV.below]) ⟨zaq (by omega) _ _ _,zau _ _ _,tv⟩ ⟨Fz.r F,?_,?_,tv⟩
  ·exact m _ (fun k=>rfl)
  ·exact p g _
def rndN(a:Int):List Int->List Int
 |x::y::z::r=>x::y::(z - z.tmod a)::r
 |l=>l
theorem z7e(F:Fz)(L:List Ln)(i c:Nat)(caps:Nat->Nat)(t:List UInt8)(x y z a:Int)(r:List Int)(h:L[i]? =some (t,x::y::z::r))(s:0 < a)(K:-1000000000000000000<=z)(I:z<=1000000000000000000)(A:a<=1000000000000000000):
  Ct Tryz.prog 191 [.va (.ptr ⟨1,0,i,2,0⟩),.va (.int .i64 a)] F [(1,zbq 2 caps c L),(2,famE caps L)] 3
   (stepK F c caps (L.set i (t,rndN a (x::y::z::r)))):=by
 have b:=zes 2 caps 0 L i _ h;rw[qx]at b;have m:i < L.length:=(ql.1 h).1;have e:=zjm caps h;rcases L with _ | ⟨f,g⟩
 ·exact absurd m (by simp)
 have u:((x::y::z::r).length=(rndN a (x::y::z::r)).length):=rfl;have o:=znf (B:=2) (caps:=caps) (c:=c) u h;have p:∀μ:Mu,(∀k,μ 2 k=(2,k))->subE (some (zbq 2 caps c (f::g))) ((zbq 2 caps c ((f::g).set i (t,rndN a (x::y::z::r)))).ren μ):=fun μ J=>by rw[o];exact zbe J
 have E:z.tmod a < a:=qca _ s
 have D:-a < z.tmod a:=by
  have h1:(-z).tmod a < a:=qca _ s;rw[Int.neg_tmod]at h1;omega
 have l:IntKind.i64.wrap (z - z.tmod a)=z - z.tmod a:=zah (by omega) (by omega);have q:IntKind.i64.wrap (z - IntKind.i64.wrap (z.tmod a))=z - z.tmod a:=by rw[zah (n:=z.tmod a) (by omega) (by omega),l]
 have w:∀v,v=z - z.tmod a->(List.map encI ((List.map (fun x:Ln=>x.snd) (f::g)).getD i [])).set 2 [.int .i64 v]=(rndN a (x::y::z::r)).map encI:=by
  intro v G;subst G;rw[e,rndN];rfl
 have d:(!((List.map (fun x:Ln=>x.snd) (f::g)).getD i []).isEmpty)=true:=by rw[e];rfl
 have j:(List.map encI ((List.map (fun x:Ln=>x.snd) (f::g)).getD i []))[2]? =some [.int .i64 z]:=by rw[e];rfl
 refine ctS Tryz.func191 ?_;refine dwS (lk [0,1,2,3,4,5,6,7,8,9,10,11,12,13,14,15] (.last 16 .done)) [1,2] ?_;refine⟨rfl,rfl,_,b,rfl,⟨by simp,by show(2:Int) < ((r.length+1+1+1:Nat):Int);omega⟩,rfl,⟨m,d⟩,_,j,rfl,rfl,_,b,rfl,⟨by simp,by show(2:Int) < ((r.length+1+1+1:Nat):Int);omega⟩,rfl,⟨m,d⟩,_,j,(by omega),rfl,⟨by simp,by show(2:Int) < ((r.length+1+1+1:Nat):Int);omega⟩,⟨m,d⟩,_,j,?_⟩;refine clean [] (.ret (.tup [])) F [(1,zbq 2 caps c ((f::g).set i (t,rndN a (x::y::z::r)))),(2,famE caps ((f::g).set i (t,rndN a (x::y::z::r))))] 3 ⟨Fz.r F,rfl,rfl,rfl,rfl⟩ (zal _) rfl rfl (by simp[Out.below,SV.below]) ⟨zaq (by omega) _ _ _,zau _ _ _,tv⟩ ⟨Fz.r F,?_,?_,tv⟩
 ·exact p _ (fun k=>rfl)
 ·refine z8p u h (by simp) ?_
  first
  |exact w _ l
  |exact w _ q
def valE(v:Val)(i c:Nat):Ent:=.one (.cells 201 [.lit v.lost,gA 2 i c v.lines,.int .i64 v.w,.int .i64 v.h,.str v.bits])
def lnE(B:Nat)(caps:Nat->Nat)(c:Nat):List Ln->Ent
 |[]=>.gone
 |x::r=>zbq B caps c (x::r)
def fmE(caps:Nat->Nat):List Ln->Ent
 |[]=>.gone
 |x::r=>famE caps (x::r)
theorem z0n{n B:Nat}(h:B < n)(caps:Nat->Nat)(c:Nat)(l:List Ln):(lnE B caps c l).below n:=by
 cases l with
 |nil=>trivial
 |cons x r=>exact zaq h _ _ _
theorem zzs(n:Nat)(caps:Nat->Nat)(l:List Ln):(fmE caps l).below n:=by
 cases l with
 |nil=>trivial
 |cons x r=>exact zau _ _ _
def valM(v:Val)(c:Nat)(caps:Nat->Nat):List (Nat×Ent):=[(1,valE v 2 c),(2,lnE 3 caps c v.lines),(3,fmE caps v.lines)]
def stepV(F:Fz)(v:Val):Out->Fz->List (Nat×Ent)->Nat->Prop:=fun o a b n0=>a=F/\n0=4/\o=.ret (.tup [])/\∃c caps,b=valM v c caps
theorem zec{α:Type}{n i:Nat}(h:i < n)(sz c:Nat)(l:List α):(gA sz i c l).below n:=by
 cases l with
 |nil=>trivial
 |cons x r=>exact .inr h
theorem zcv{v:Val}{n i:Nat}(h:i < n)(c:Nat):(valE v i c).below n:=by
 show∀a∈_,SA.below n a;intro a b;simp only[qn,qy,or_false]at b;rcases b with rfl | rfl | rfl | rfl | rfl
 ·trivial
 ·exact zec h _ _ _
 ·trivial
 ·trivial
 ·trivial
theorem zj0(v:Val)(c:Nat)(caps:Nat->Nat):bH 4 (valM v c caps):=⟨zcv (by omega) _,z0n (by omega) _ _ _,zzs _ _ _,tv⟩
def loseV:Val:=⟨true,[],0,0,[]⟩
theorem yai(F:Fz)(v:Val)(a:Int)(c:Nat)(caps:Nat->Nat):
  Ct Tryz.prog 195 [.va (.ptr ⟨1,0,0,0,0⟩),.va (.int .i64 a)] F (valM v c caps) 4 (stepV F loseV):=by
 refine ctS Tryz.func195 ?_;refine clean [] (.ret (.tup [])) F (valM loseV 0 (fun _=>0)) 4 ⟨Fz.r F,rfl,rfl,rfl,0,fun _=>0,rfl⟩ (zal _) rfl rfl (by simp[Out.below,SV.below]) (zj0 _ _ _) ⟨Fz.r F,rfl,tv⟩
def upTo(f:Ln->Ln)(L:List Ln)(k:Nat):List Ln:=(L.take k).map f++L.drop k
theorem z8b(f:Ln->Ln)(L:List Ln)(k:Nat):(upTo f L k).length=L.length:=by
 unfold upTo;simp only[qd,qe,qo,yp];omega
theorem z8a(f:Ln->Ln){L:List Ln}{k:Nat}{x:Ln}(h:L[k]? =some x):(upTo f L k)[k]? =some x:=by
 have a:=(ql.1 h).1;unfold upTo;rw[jx (by simp only[qe,qo];omega),qam];have:k+(k - ((L.take k).map f).length)=k:=by simp only[qe,qo];omega
 rw[this,h]
theorem z8c(f:Ln->Ln){L:List Ln}{k:Nat}{x:Ln}(h:L[k]? =some x):(upTo f L k).set k (f x)=upTo f L (k+1):=by
 obtain⟨a,b⟩:=ql.1 h;unfold upTo;rw[qch _ _ (by simp only[qe,qo];omega)];have e:k - ((L.take k).map f).length=0:=by simp only[qe,qo];omega
 rw[e,jk a,qbb,qf a,qs,b];simp
theorem z7z(f:Ln->Ln)(L:List Ln):upTo f L L.length=L.map f:=by
 unfold upTo;simp
theorem zdi{τ μ:Mu}{B a B' c:Nat}{caps:Nat->Nat}{l b:List Ln}(f:∀k,τ B k=(B',k))(d:∀k,μ a k=(B',k))(e:l=b):subE (some ((zbq B caps c l).ren τ)) ((zbq a caps c b).ren μ):=by
 subst e;exact⟨rfl,congrArg (fun L=>SB.arr 259 2 L c) ((zfe (m:=l.length) (fun k _=>⟨f k,rfl⟩) 0 l (by omega)).trans (zfe (m:=l.length) (fun k _=>⟨d k,rfl⟩) 0 l (by omega)).symm)⟩
theorem zf9{τ μ:Mu}{caps:Nat->Nat}{l a:List Ln}(e:l=a):subE (some ((famE caps l).ren τ)) ((famE caps a).ren μ):=by
 subst e;rw[zkl];exact zb8
theorem zlk{μ:Mu}{a B' c:Nat}{caps:Nat->Nat}{l b:List Ln}(d:∀k,μ a k=(B',k))(e:l=b):subE (some (zbq B' caps c l)) ((zbq a caps c b).ren μ):=by
 subst e;exact zbe d
theorem zp6{μ:Mu}{caps:Nat->Nat}{l a:List Ln}(e:l=a):subE (some (famE caps l)) ((famE caps a).ren μ):=by
 subst e;exact zb8
def z8j(g:Nat)(F:Fz)(c:Nat)(caps:Nat->Nat)(a:Int)(f:Ln->Ln)(x:Ln):Prop:=
 ∀(L:List Ln) (i:Nat),L[i]? =some x->Ct Tryz.prog g [.va (.ptr ⟨1,0,i,2,0⟩),.va (.int .i64 a)] F [(1,zbq 2 caps c L),(2,famE caps L)] 3 (stepK F c caps (L.set i (f x)))
theorem z4x(F:Fz)(g b:Nat)(f:Ln->Ln)(w h:Int)(bits:List UInt8)(e:Bool)(L:List Ln)(a:Int)(c:Nat)(caps:Nat->Nat)(hb:F b=some (eF g))(K:L≠[])(Y:L.length<=1000000)(W:∀x∈L,z8j g F c caps a f x):
  Ct Tryz.prog 246 [.va (.ptr ⟨1,0,0,0,0⟩),.va (.int .i64 a),.va (.ptr (fp b))] F (valM ⟨e,L,w,h,bits⟩ c caps) 4 (stepV F ⟨e,L.map f,w,h,bits⟩):=by
 rcases L with _ | ⟨i,d⟩
 ·exact absurd rfl K
 have Z:d.length+1<=1000000:=Y;refine ctS Tryz.func246 ?_;conv=>whnf
 refine zak hΘ (X:={ x:Nat×Ln×List Ln // x.1<=d.length+1/\x.2.1::x.2.2=upTo f (i::d) x.1 }) (fun x=>[(11,.va (.int .i64 x.1.1))]) (5::jr 12 12 [])
  (fun x=>[(0,.frz F),(1,valE ⟨e,i::d,w,h,bits⟩ 2 c),(2,zbq 3 caps c (x.1.2.1::x.1.2.2)),(3,famE caps (x.1.2.1::x.1.2.2))]) 4 (fun x=>d.length+1 - x.1.1) ⟨(0,i,d),by simp,by simp[upTo]⟩
  (fun I J=>leI [] I J rfl ⟨tv,zcv (by omega) _,zaq (by omega) _ _ _,zau _ _ _,tv⟩ ⟨rfl,tv⟩ ⟨Fz.r F,rfl,zbe (fun k=>rfl),zb8 (μ:=sig []) (caps:=caps) (l:=i::d),tv⟩) ?_
 rintro⟨⟨k,o,s⟩,T,j⟩ I J;replace T:k<=d.length+1:=T;replace j:o::s=upTo f (i::d) k:=j;refine br (fun B=>?_) (fun B=>?_)
 ·have G:k < d.length+1:=by
   have S:(k:Int) < ((d.length+1:Nat):Int):=od B;omega
  clear B;have m:∃x,(i::d)[k]? =some x:=⟨_,qa G⟩
  obtain⟨x,m⟩:=m;have R:=yr m;have O:(o::s)[k]? =some x:=by rw[j];exact z8a f m
  have E:(o::s).set k (f x)=upTo f (i::d) (k+1):=by rw[j];exact z8c f m
  have Q:(o::s)[0+k]? =some x:=by rw[qx];exact O
  have u:=W x R (o::s) (0+k) Q
  have n:∃y A,y::A=upTo f (i::d) (k+1):=by
   have q:=z8b f (i::d) (k+1);cases hu:upTo f (i::d) (k+1)with
   |nil=>rw[hu]at q;simp at q
   |cons y A=>exact⟨y,A,rfl⟩
  obtain⟨y,A,n⟩:=n;have D:(o::s).set (0+k) (f x)=y::A:=by rw[qx,E,n]
  refine dwS (lk [0,1,2,3,4,5,6,7] (.alt 8 .done .nil)) [0,1] ?_;conv=>whnf
  repeat' ((conv=>whnf);first
   |refine⟨rfl,?_⟩
   |refine⟨Fz.r _,rfl,?_⟩
   |refine⟨Fz.r _,rfl,rfl,?_⟩
   |refine⟨⟨by simp,by simp⟩,?_⟩
   |fail)
  refine⟨_,hb,rfl,rfl,⟨by simp,by show(k:Int) < ((d.length+1:Nat):Int);omega⟩,?_⟩;refine useS u [(1,2),(2,3)] ⟨zaq (by omega) _ _ _,zau _ _ _,tv⟩ ⟨zbe (fun k=>rfl),zb8 (caps:=caps) (l:=o::s),tv⟩ ?_;rintro U F0 S n1 aa ⟨rfl,rfl,rfl,rfl⟩;refine⟨Fz.r _,rfl,rfl,?_⟩
  exact⟨⟨(k+1,y,A),by show k+1<=d.length+1;omega,n⟩,by show d.length+1 - (k+1) < d.length+1 - k;omega,
   leR [] I J rfl ⟨tv,zcv (by omega) _,zaq (by omega) _ _ _,zau _ _ _,tv⟩ ⟨cnt (by omega),tv⟩
   ⟨Fz.r _,rfl,zdi (fun k=>rfl) (fun k=>rfl) D,zf9 D,tv⟩⟩
 ·have G:k=d.length+1:=by
   have S:¬(k:Int) < ((d.length+1:Nat):Int):=oe B;omega
  clear B;have p:o::s=(i::d).map f:=by rw[j,G];exact z7z f (i::d)
  have V:valE ⟨e,i::d,w,h,bits⟩ 2 c=valE ⟨e,f i::d.map f,w,h,bits⟩ 2 c:=by
   simp[valE,gA]
  have M:∀μ:Mu,μ 2 0=(2,0)->subE (some (valE ⟨e,i::d,w,h,bits⟩ 2 c)) ((valE ⟨e,f i::d.map f,w,h,bits⟩ 2 c).ren μ):=by
   intro μ hμ;rw[<-V];show _=_;simp[SB.ren,gA,SA.ren,hμ]
  refine clean [] (.ret (.tup [])) F (valM ⟨e,f i::d.map f,w,h,bits⟩ c caps) 4 ⟨Fz.r F,rfl,rfl,rfl,c,caps,rfl⟩ (zal _) rfl rfl (by simp[Out.below,SV.below]) (zj0 _ _ _) ⟨Fz.r F,?_,?_,?_,tv⟩
  ·exact M _ rfl
  ·exact zlk (fun k=>rfl) p
  ·exact zp6 p
theorem zlf{B:Nat}{caps:Nat->Nat}{t':List UInt8}{n:List Int}:∀(j:Nat) (L:List Ln) (i:Nat),zb1 B caps j (L.set i (t',n))=(zb1 B caps j L).set i [.str t',nA B (j+i) (caps (j+i)) n]
 |j,[],i=>by simp[zb1]
 |j,y::r,0=>by
  rw[qbb,zb1,zb1,qbb];rfl
 |j,y::r,i+1=>by
  rw[qcz,zb1,zb1,zlf (j+1) r i,qcz];have:j+1+i=j+(i+1):=by omega
  rw[this]
theorem zk8{caps:Nat->Nat}{t t':List UInt8}{n:List Int}{L:List Ln}{i:Nat}(h:L[i]? =some (t,n)):famE caps (L.set i (t',n))=famE caps L:=by
 have a:(L.set i (t',n)).map (·.2)=L.map (·.2):=by
  rw[qbl];exact zpa (by rw[qt,h];rfl)
 unfold famE;rw[qax,a]
theorem zqs{caps:Nat->Nat}{c:Nat}{t':List UInt8}{n:List Int}{L:List Ln}{i:Nat}{a:List (List SA)}(b:L≠[])(g:a=(zb1 2 caps 0 L).set i [.str t',nA 2 i (caps i) n]){μ:Mu}(h:∀k,μ 2 k=(2,k)):
  subE (some (.opt true (.arr 259 2 a c))) ((zbq 2 caps c (L.set i (t',n))).ren μ):=by
 have e:=zlf (B:=2) (caps:=caps) (t':=t') (n:=n) 0 L i;rw[qx]at e;rw[g,<-e];have d:=zbe (B:=2) (B':=2) (caps:=caps) (c:=c) (l:=L.set i (t',n)) h
 have f:(!(L.set i (t',n)).isEmpty)=true:=by
  cases L with
  |nil=>exact absurd rfl b
  |cons x r=>cases i<;>rfl
 rw[zbq,f]at d;rw[zbq,f];exact d
def LFun(a:List UInt8->List UInt8):Prop:=∀(F:Fz) (s:List UInt8),s.length<=70000->(∀b∈s,b.toNat < 128)->Fo Tryz.prog F 247 [.va (.str s)] (fun o c=>F=c/\o=.ret (.va (.str (a s))))
theorem z96{e:List UInt8->List UInt8}(m:LFun e)(F:Fz)(L:List Ln)(i c:Nat)(caps:Nat->Nat)(t:List UInt8)(n:List Int)(a:Int)(h:L[i]? =some (t,n))(p:t.length<=70000)(f:∀b∈t,b.toNat < 128):
  Ct Tryz.prog 188 [.va (.ptr ⟨1,0,i,2,0⟩),.va (.int .i64 a)] F [(1,zbq 2 caps c L),(2,famE caps L)] 3
   (stepK F c caps (L.set i (e t,n))):=by
 have d:=zes 2 caps 0 L i _ h;rw[qx]at d;have o:i < L.length:=(ql.1 h).1;rcases L with _ | ⟨g,j⟩
 ·exact absurd o (by simp)
 have l:∀μ:Mu,subE (some (famE caps (g::j))) ((famE caps ((g::j).set i (e t,n))).ren μ):=fun μ=>by
  rw[zk8 h];exact zb8
 refine ctS Tryz.func188 ?_;refine⟨rfl,_,d,?_⟩;refine useFt (m F t p f) ?_;rintro _ _ q ⟨rfl,rfl⟩;refine⟨rfl,_,d,?_⟩;refine clean [] (.ret (.tup [])) F [(1,zbq 2 caps c ((g::j).set i (e t,n))),(2,famE caps ((g::j).set i (e t,n)))] 3 ⟨Fz.r F,rfl,rfl,rfl,rfl⟩ (zal _) rfl rfl (by simp[Out.below,SV.below]) ⟨zaq (by omega) _ _ _,zau _ _ _,tv⟩ ⟨Fz.r F,?_,?_,tv⟩
 ·exact zqs (t':=e t) (n:=n) (by simp) rfl (fun k=>rfl)
 ·exact l _
def hasD:List UInt8->Bool
 |a::b::r=>(a==32&&b==32)||hasD (b::r)
 |_=>false
def repD:List UInt8->List UInt8
 |a::b::r=>if a==32&&b==32 then 32::repD r else a::repD (b::r)
 |l=>l
theorem zo3:∀l:List UInt8,(repD l).length<=l.length
 |[]=>by simp[repD]
 |[a]=>by simp[repD]
 |a::b::r=>by
  rw[repD];have h1:=zo3 r;have c:=zo3 (b::r);simp only[qj]at c;split<;>simp only[qj]<;>omega
theorem zl0:∀l:List UInt8,hasD l=true->(repD l).length < l.length
 |[],h=>by simp[hasD]at h
 |[a],h=>by simp[hasD]at h
 |a::b::r,h=>by
  rw[repD];by_cases c:(a==32&&b==32)=true
  ·rw[if_pos c];have h1:=zo3 r;simp only[qj];omega
  ·rw[if_neg c];rw[hasD,qal]at h;have d:=zl0 (b::r) (h.resolve_left c);simp only[qj]at d ⊢;omega
def spS:Nat->List UInt8->List UInt8
 |0,s=>s
 |f+1,s=>if hasD s then spS f (repD s)else s
theorem zpc:∀(f:Nat) (s:List UInt8),s.length<=f->spS f s=spS s.length s
 |0,s,h=>by
  have:s.length=0:=by omega
  rw[this]
 |f+1,s,h=>by
  rw[spS];by_cases a:hasD s=true
  ·rw[if_pos a];have d:=zl0 s a;rw[zpc f (repD s) (by omega)];obtain⟨m,b⟩:∃m,s.length=m+1:=⟨s.length - 1,by omega⟩
   rw[b,spS,if_pos a];by_cases c:m < f+1
   ·exact(zpc m (repD s) (by omega)).symm
   ·omega
  ·rw[if_neg a];cases e:s.length with
   |zero=>rfl
   |succ m=>rw[spS,if_neg a]
theorem z7q{s:List UInt8}(a:hasD s=true):spS s.length s=spS (repD s).length (repD s):=by
 have c:=zl0 s a;obtain⟨m,b⟩:∃m,s.length=m+1:=⟨s.length - 1,by omega⟩
 rw[b,spS,if_pos a,zpc m (repD s) (by omega)]
theorem ybf{s:List UInt8}(a:hasD s=false):spS s.length s=s:=by
 cases b:s.length with
 |zero=>rfl
 |succ m=>rw[spS,if_neg (by rw[a];simp)]
def MLF(F:Fz):Prop:=∃m,F 4=some (.cells 3 [.int .i64 m])
theorem MLF.mono{F b:Fz}(h:MLF F)(a:Fz.le F b):MLF b:=let⟨m,c⟩:=h;⟨m,a _ _ c⟩
def DFun:Prop:=∀(F:Fz) (s:List UInt8),MLF F->s.length<=70000->Fo Tryz.prog F 248 [.va (.str s),.va (.str [32,32])] (fun o a=>F=a/\o=.ret (.va (.bool (hasD s))))
def AFun:Prop:=∀(F:Fz) (s:List UInt8),MLF F->s.length<=70000->Fo Tryz.prog F 249 [.va (.str s),.va (.str [32,32]),.va (.str [32])] (fun o a=>F=a/\o=.ret (.va (.str (repD s))))
theorem zsm{α:Type}{L:List α}(h:L≠[]):∃a r,L=a::r:=by cases L with
 |nil=>exact absurd rfl h
 |cons a r=>exact⟨a,r,rfl⟩
theorem ydf{α:Type}{L:List α}(h:L≠[])(i:Nat)(x:α):L.set i x≠[]:=by
 cases L with
 |nil=>exact absurd rfl h
 |cons a r=>cases i<;>simp
theorem zzm{μ:Mu}{caps:Nat->Nat}{l a:List Ln}(e:famE caps l=famE caps a):subE (some (famE caps l)) ((famE caps a).ren μ):=by
 rw[e];exact zb8
theorem z2w(W:DFun)(V:AFun)(F:Fz)(S:MLF F)(L:List Ln)(i c:Nat)(caps:Nat->Nat)(t:List UInt8)(n:List Int)(a:Int)(h:L[i]? =some (t,n))(ht:t.length<=70000):
  Ct Tryz.prog 189 [.va (.ptr ⟨1,0,i,2,0⟩),.va (.int .i64 a)] F [(1,zbq 2 caps c L),(2,famE caps L)] 3
   (stepK F c caps (L.set i (spS t.length t,n))):=by
 have T:i < L.length:=(ql.1 h).1;rcases L with _ | ⟨d,e⟩
 ·exact absurd T (by simp)
 have O:d::e≠[]:=by simp
 have Z:∀s,famE caps ((d::e).set i (s,n))=famE caps (d::e):=fun s=>zk8 h
 have Q:(d::e).set i (t,n)=d::e:=zpa h;have q:∀s R,((d::e).set i (s,n)).set i (R,n)=(d::e).set i (R,n):=fun s R=>List.set_set ..
 have B:∀s,((d::e).set i (s,n))[i]? =some (s,n):=fun s=>by rw[qas,if_pos rfl,if_pos T]
 refine ctS Tryz.func189 ?_;conv=>whnf
 refine zak hΘ (X:={ x:List UInt8×Ln×List Ln // x.2.1::x.2.2=(d::e).set i (x.1,n)/\x.1.length<=t.length/\spS x.1.length x.1=spS t.length t }) (fun _=>[]) (jr 4 13 [])
  (fun x=>[(0,.frz F),(1,zbq 2 caps c (x.1.2.1::x.1.2.2)),(2,famE caps (x.1.2.1::x.1.2.2))]) 3 (fun x=>x.1.1.length) ⟨(t,d,e),Q.symm,qi _,rfl⟩
  (fun I J=>leI [] I J rfl ⟨tv,zaq (by omega) _ _ _,zau _ _ _,tv⟩ trivial ⟨Fz.r F,zbe (fun k=>rfl),zb8 (μ:=sig []) (caps:=caps) (l:=d::e),tv⟩) ?_
 rintro⟨⟨s,p,u⟩,f,D,m⟩ I J;replace f:p::u=(d::e).set i (s,n):=f;replace D:s.length<=t.length:=D;replace m:spS s.length s=spS t.length t:=m;have h1:(p::u)[i]? =some (s,n):=by rw[f];exact B s
 have b:=zes 2 caps 0 (p::u) i _ h1;rw[qx]at b;have K:hasD s=true\/hasD s=false:=by cases hasD s<;>simp
 have j:∃w G,(d::e).set i (repD s,n)=w::G:=zsm (ydf O _ _);obtain⟨w,G,j⟩:=j;have o:(p::u).set i (repD s,n)=w::G:=by rw[f,q,j]
 have A:famE caps (p::u)=famE caps (w::G):=by rw[<-o,zk8 h1]
 refine⟨rfl,_,b,?_⟩;refine useFt (W F s S (by omega)) ?_;rintro _ _ l1 ⟨rfl,rfl⟩;refine br (fun g=>?_) (fun g=>?_)
 ·have g:hasD s=true:=g;have M:=zl0 s g;have E:=z7q g;refine⟨rfl,_,b,?_⟩;refine useFt (V F s S (by omega)) ?_;rintro _ _ l2 ⟨rfl,rfl⟩;refine⟨rfl,_,b,?_⟩
  refine⟨⟨(repD s,w,G),j.symm,by show(repD s).length<=t.length;omega,by show spS (repD s).length (repD s)=_;rw[<-E];exact m⟩,M,
   leR [] I J rfl ⟨tv,zaq (by omega) _ _ _,zau _ _ _,tv⟩ trivial ⟨Fz.r _,?_,zzm A,tv⟩⟩
  have U:=zqs (caps:=caps) (c:=c) (t':=repD s) (n:=n) (L:=p::u) (i:=i) (by simp) rfl (μ:=sig []) (fun k=>rfl);rw[o]at U;exact U
 ·have g:hasD s=false:=g;have Y:s=spS t.length t:=by rw[<-m];exact(ybf g).symm
  have y:p::u=(d::e).set i (spS t.length t,n):=by rw[f,<-Y]
  refine clean [] (.ret (.tup [])) F [(1,zbq 2 caps c ((d::e).set i (spS t.length t,n))),(2,famE caps ((d::e).set i (spS t.length t,n)))] 3 ⟨Fz.r F,rfl,rfl,rfl,rfl⟩ (zal _) rfl rfl (by simp[Out.below,SV.below]) ⟨zaq (by omega) _ _ _,zau _ _ _,tv⟩ ⟨Fz.r F,?_,?_,tv⟩
  ·exact zlk (fun k=>rfl) y
  ·exact zp6 y
theorem zjo{w:Int}(b:0<=w/\w<=1000000):IntKind.i64.wrap ((IntKind.i64.wrap (w+1)).tdiv 2)=(w+1) / 2/\(IntKind.i64.wrap (w+1)).tdiv 2=(w+1) / 2:=by
 have h1:IntKind.i64.wrap (w+1)=w+1:=zah (by omega) (by omega);have a:(w+1).tdiv 2=(w+1) / 2:=ji (by omega);rw[h1,a];exact⟨zah (by omega) (by omega),rfl⟩
theorem zqe(F:Fz)(w h:Int)(a:Int)(c:Nat)(caps:Nat->Nat)(f:0<=w/\w<=1000000)(hh:0<=h/\h<=1000000):
  Ct Tryz.prog 194 [.va (.ptr ⟨1,0,0,0,0⟩),.va (.int .i64 a)] F (valM ⟨false,[],w,h,[]⟩ c caps) 4 (stepV F ⟨false,[],(w+1) / 2,(h+1) / 2,[]⟩):=by
 have e:∀d b,d=(w+1) / 2->b=(h+1) / 2->subE (some (valE ⟨false,[],d,b,[]⟩ 2 c)) ((valE ⟨false,[],(w+1) / 2,(h+1) / 2,[]⟩ 2 c).ren (sig [])):=by
  intro d b g i;subst g;subst i;rfl
 refine ctS Tryz.func194 ?_;refine dwS (lk [0,1,2,3,4,5,6,7,8,9,10,11,12,13] .done) [1] ?_;conv=>whnf
 repeat' ((conv=>whnf);first
  |refine⟨rfl,?_⟩
  |refine⟨Fz.r _,rfl,?_⟩
  |refine⟨Fz.r _,rfl,rfl,?_⟩
  |refine⟨⟨by simp,by simp⟩,?_⟩
  |fail)
 refine⟨(by omega),?_⟩;conv=>whnf
 repeat' ((conv=>whnf);first
  |refine⟨rfl,?_⟩
  |refine⟨Fz.r _,rfl,?_⟩
  |refine⟨Fz.r _,rfl,rfl,?_⟩
  |refine⟨⟨by simp,by simp⟩,?_⟩
  |fail)
 refine⟨(by omega),?_⟩;conv=>whnf
 refine brd (by simp) ?_;refine clean [] (.ret (.tup [])) F (valM ⟨false,[],(w+1) / 2,(h+1) / 2,[]⟩ c caps) 4 ⟨Fz.r F,rfl,rfl,rfl,c,caps,rfl⟩ (zal _) rfl rfl (by simp[Out.below,SV.below]) (zj0 _ _ _) ⟨Fz.r F,?_,tv⟩
 first
 |exact e _ _ (zjo f).1 (zjo hh).1
 |exact e _ _ (zjo f).2 (zjo hh).2
end Go.Proofs.YtfnkamphhpldcaaGreatDoor
namespace Go.Proofs.YtfnkamphhpldcaaGreatDoor
open Go Sx
def halB(w:Nat):Nat->List UInt8->List UInt8->List UInt8
 |_,[],o=>o
 |k,b::r,o=>halB w (k+1) r (if b=49 then o.set (k / w / 2*((w+1) / 2)+k % w / 2) 49 else o)
theorem zoo(w:Nat):∀(l:List UInt8) (k:Nat) (o:List UInt8),(halB w k l o).length=o.length
 |[],_,_=>rfl
 |b::r,k,o=>by
  rw[halB,zoo w r];split
  ·exact qax
  ·rfl
theorem z5l{k w h:Nat}(a:k < w*h):k / w / 2*((w+1) / 2)+k % w / 2 < (w+1) / 2*((h+1) / 2):=by
 have d:0 < w:=by
  rcases qbn w with h0 | h0
  ·rw[h0,qdf]at a;omega
  ·exact h0
 have h1:k / w < h:=qbz a;have e:k % w < w:=qa1 _ d;have b:k / w / 2+1<=(h+1) / 2:=by omega
 have f:k % w / 2 < (w+1) / 2:=by omega
 have c:(w+1) / 2*(k / w / 2+1)<=(w+1) / 2*((h+1) / 2):=qb7 _ b;rw[qdt,qc5]at c;rw[qab (k / w / 2)];omega
