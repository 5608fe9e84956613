import Derived.Test.YtfnkamphhpldcaaGreatDoorK37
set_option maxHeartbeats 64000000
namespace Go.Proofs.YtfnkamphhpldcaaGreatDoor
open Go Sx
set_option maxRecDepth 100000
abbrev docB(c d:Bool)(l a k b:Nat)(w:Int)(s:List UInt8):SB:=.cells 41 [.slice c 2 0 0 2 l a,.slice d 3 0 0 6 k b,.int .i64 w,.str s]
abbrev docL(c d:Bool)(l a k b:Nat)(w:Int)(s:List UInt8):Ent:=.one (docB c d l a k b w s)
theorem za6{n:Nat}(h:3 < n)(e f:Bool)(l c k d:Nat)(w:Int)(s:List UInt8):(docL e f l c k d w s).below n:=by
 intro a b;simp only[ql,qt,or_false]at b;rcases b with rfl | rfl | rfl | rfl
 ·exact .inr (by omega)
 ·exact .inr h
 ·trivial
 ·trivial
def mxl{α:Type}(A B:List α)(k:Nat):List α:=A.take k++B.drop k
theorem zoo{α:Type}{A B:List α}(h:A.length=B.length)(k:Nat):(mxl A B k).length=B.length:=by
 unfold mxl;rw[qb,qj,yd];omega
theorem zgj{α:Type}(A B:List α):mxl A B 0=B:=by simp[mxl]
theorem zhu{α:Type}{A B:List α}(h:A.length=B.length):mxl A B B.length=A:=by
 unfold mxl;rw[List.drop_length,jp,<-h,yw]
theorem zz6{α:Type}{A B:List α}(h:A.length=B.length){k:Nat}(a:k < B.length):(mxl A B k)[k]? =some B[k]:=by
 unfold mxl;rw[jt (by rw[qj];omega),qj,qaa];rw[show k+(k - min k A.length)=k by omega,qc a]
theorem zz7{α:Type}{A B:List α}(h:A.length=B.length){k:Nat}(a:k < B.length):(mxl A B k).set k (A[k]'(by omega))=mxl A B (k+1):=by
 unfold mxl;rw[qbm _ _ (by rw[qj];omega),qj,show k - min k A.length=0 by omega,qy a,qat,qe (show k < A.length by omega),qn];rfl
theorem zgh{α:Type}{A:List α}{a0:α}{ar:List α}(h:A.length=(a0::ar).length)(k:Nat):∃a c,a::c=mxl A (a0::ar) k:=by
 have h:=zoo h k;cases b:mxl A (a0::ar) k with
 |nil=>rw[b]at h;simp at h
 |cons x r=>exact⟨x,r,rfl⟩
theorem zli{α:Type}{e:α->List SA}{A B L:List α}(h:A.length=B.length){k:Nat}(b:k < B.length)(a:L=mxl A B k):(L.map e)[0+(k:Int).toNat]? =some (e B[k]):=by
 subst a;rw[qk,qv,qs,zz6 h b];rfl
theorem zgi{α:Type}{e:α->List SA}{A B L:List α}(h:A.length=B.length){k:Nat}(b:k < B.length)(a:L=mxl A B k){x:List SA}(c:x=e (A[k]'(by omega))):(L.map e).set (0+(k:Int).toNat) x=(mxl A B (k+1)).map e:=by
 subst a c;rw[qk,qv,<-zz7 h b,qbg]
theorem zop{α:Type}{e:α->List SA}{A B L:List α}(h:A.length=B.length){k:Nat}(b:k < B.length)(a:L=mxl A B k){y:List SA}:((L.map e).set (0+(k:Int).toNat) y)[0+(k:Int).toNat]? =some y:=by
 rw[qk,qv,qca];rw[qa,a,zoo h];exact b
theorem zl6{α:Type}(l:List α)(k:Nat)(x y:α):(l.set k x).set k y=l.set k y:=by simp
theorem rw_op{α:Type}{t sz:Nat}{e:α->List SA}{c:Nat}{b q:Bool}{L:List (List SA)}{l:List α}(a:b= !q)(h:L=l.map e):subE (some (.opt b (.arr t sz L c))) (rwE q t sz e c l):=by
 subst a h;exact⟨rfl,rfl⟩
theorem rw_of{α:Type}{q:Bool}{t sz:Nat}{e:α->List SA}{c:Nat}{l a:List α}(h:l=a):subE (some (rwE q t sz e c l)) (rwE q t sz e c a):=by
 subst h;exact zao _ _ _ _ _
abbrev hpL(c d:Bool)(a b:Nat)(L:List DLn)(K:List Cel)(w:Int)(s:List UInt8):List (Nat×Ent):=[(1,docL c d L.length a K.length b w s),(2,rwE c 148 2 encN a L),(3,rwE d 151 6 encK b K)]
theorem zb4{n:Nat}(h:3 < n)(c d:Bool)(a b:Nat)(L:List DLn)(K:List Cel)(w:Int)(s:List UInt8):bH n (hpL c d a b L K w s):=
 ⟨za6 h _ _ _ _ _ _ _ _,zan zal _ _ _ _ _ _,zan zad _ _ _ _ _ _,tv⟩
theorem zdu{α:Type}{q:Bool}{a:α}{l:List α}(h:q=true->a::l=[]):q=false:=by cases q with
 |true=>cases h rfl
 |false=>rfl
abbrev finL(d e:Bool)(a b:Nat)(L:List DLn)(K:List Cel)(w:Int)(s:List UInt8):Out->Fz->List (Nat×Ent)->Nat->Prop:=fun o _ c n0=>n0=4/\o=.ret (.tup [])/\c=hpL d e a b L K w s
abbrev setL(n:Nat)(l:DLn):DLn:=if n=1 then([],l.2)else(l.1,0)
theorem z5b(F:Fz)(n f:Bool)(c d:Nat)(L A:List DLn)(K:List Cel)(w:Int)(s:List UInt8)(T:n=true->L=[])(S:L.length<=1000)(D:A=L.map (setL 1)):
  Ct Tryz.prog 89 [.va .nilptr,.va (.ptr ⟨1,0,0,0,0⟩)] F (hpL n f c d L K w s) 4 (finL n f c d A K w s):=by
 have a:A.length=L.length:=by rw[D,qa]
 have E:∀k (h:k < L.length),A[k]'(by omega)=setL 1 L[k]:=fun k h=>by subst D;rw[yt]
 clear D;rcases L with _ | ⟨a0,ar⟩
 ·obtain rfl:A=[]:=ju a;refine ct_of hΘ Tryz.func89 rfl (by decide) _ _ rfl rfl rfl ?_;conv=>whnf
  refine zam hΘ (X:=Unit) (fun x=>[(11,.va (.int .i64 0))]) (3::jr 12 17 [])
   (fun x=>[(0,.frz F),(1,docL n f 0 c K.length d w s),(2,rwE n 148 2 encN c []),(3,rwE f 151 6 encK d K)]) 4 (fun x=>0) ()
   (fun l m=>leI [] l m rfl ⟨tv,za6 (by omega) _ _ _ _ _ _ _ _,zan zal _ _ _ _ _ _,zan zad _ _ _ _ _ _,tv⟩ ⟨rfl,tv⟩ ⟨Fz.r F,rfl,zar zal (zao _ _ _ _ _),zar zad (zao _ _ _ _ _),tv⟩) ?_
  rintro⟨⟩ l m;refine brd (by decide) ?_;exact clean [] (.ret (.tup [])) F (hpL n f c d [] K w s) 4 ⟨Fz.r F,rfl,rfl,rfl⟩ (zah _) rfl rfl (by simp[Out.below,SV.below]) (zb4 (by omega) _ _ _ _ _ _ _ _) ⟨Fz.r F,rfl,zar zal (zao _ _ _ _ _),zar zad (zao _ _ _ _ _),tv⟩
 ·obtain rfl:=zdu T;refine ct_of hΘ Tryz.func89 rfl (by decide) _ _ rfl rfl rfl ?_;conv=>whnf
  refine zam hΘ (X:={ y:Nat×DLn×List DLn // y.1<=ar.length+1/\y.2.1::y.2.2=mxl A (a0::ar) y.1 }) (fun y=>[(11,.va (.int .i64 y.1.1))]) (3::jr 12 17 [])
   (fun y=>[(0,.frz F),(1,docL false f (ar.length+1) c K.length d w s),(2,rwE false 148 2 encN c (y.1.2.1::y.1.2.2)),(3,rwE f 151 6 encK d K)]) 4 (fun y=>ar.length+1 - y.1.1) ⟨(0,a0,ar),jo _,(zgj _ _).symm⟩
   (fun l m=>leI [] l m rfl ⟨tv,za6 (by omega) _ _ _ _ _ _ _ _,zan zal _ _ _ _ _ _,zan zad _ _ _ _ _ _,tv⟩ ⟨rfl,tv⟩ ⟨Fz.r F,rfl,zar zal (zao _ _ _ _ _),zar zad (zao _ _ _ _ _),tv⟩) ?_
  rintro⟨⟨k,J,I⟩,M,b⟩ l m;replace M:k<=ar.length+1:=M;replace b:J::I=mxl A (a0::ar) k:=b
  have O:I.length=ar.length:=by
   have:=zoo a k;rw[<-b]at this;simpa using this
  by_cases g:k < ar.length+1
  ·have B:(k:Int) < ((ar.length+1:Nat):Int):=by omega
   have o:ar.length+1 - (k+1) < ar.length+1 - k:=by omega
   have q:k < 4611686018427387904:=by have:ar.length+1<=1000:=S;omega
   have G:=zli (e:=encN) a g b;have j:=fun x=>zgi (e:=encN) (x:=x) a g b
   rw[E k g]at j;have R:=zgh a (k+1);obtain⟨Q,U,u⟩:=R;rw[<-u]at j;refine bri B ⟨rfl,⟨js k,B⟩,rfl,_,G,?_⟩
   exact⟨⟨(k+1,Q,U),g,u⟩,o,leR [] l m rfl ⟨tv,za6 (by omega) _ _ _ _ _ _ _ _,zan zal _ _ _ _ _ _,zan zad _ _ _ _ _ _,tv⟩ ⟨cnt q,tv⟩
    ⟨Fz.r F,rfl,zar zal (rw_op rfl (j _ rfl)),zar zad (zao _ _ _ _ _),tv⟩⟩
  ·have B:¬(k:Int) < ((ar.length+1:Nat):Int):=by omega
   have p:J::I=A:=by
    rw[b,show k=(a0::ar).length by show k=ar.length+1;omega,zhu a]
   have i:docB false f (ar.length+1) c K.length d w s=(docB false f A.length c K.length d w s).ren (sig []):=by rw[a];rfl
   refine brj B ?_
   exact clean [] (.ret (.tup [])) F (hpL false f c d A K w s) 4 ⟨Fz.r F,rfl,rfl,rfl⟩ (zah _) rfl rfl (by simp[Out.below,SV.below]) (zb4 (by omega) _ _ _ _ _ _ _ _)
    ⟨Fz.r F,i,zar zal (rw_of p),zar zad (zao _ _ _ _ _),tv⟩
theorem z5d(F:Fz)(n f:Bool)(c d:Nat)(L A:List DLn)(K:List Cel)(w:Int)(s:List UInt8)(T:n=true->L=[])(S:L.length<=1000)(D:A=L.map (setL 2)):
  Ct Tryz.prog 92 [.va .nilptr,.va (.ptr ⟨1,0,0,0,0⟩)] F (hpL n f c d L K w s) 4 (finL n f c d A K w s):=by
 have a:A.length=L.length:=by rw[D,qa]
 have E:∀k (h:k < L.length),A[k]'(by omega)=setL 2 L[k]:=fun k h=>by subst D;rw[yt]
 clear D;rcases L with _ | ⟨a0,ar⟩
 ·obtain rfl:A=[]:=ju a;refine ct_of hΘ Tryz.func92 rfl (by decide) _ _ rfl rfl rfl ?_;conv=>whnf
  refine zam hΘ (X:=Unit) (fun x=>[(11,.va (.int .i64 0))]) (3::jr 12 17 [])
   (fun x=>[(0,.frz F),(1,docL n f 0 c K.length d w s),(2,rwE n 148 2 encN c []),(3,rwE f 151 6 encK d K)]) 4 (fun x=>0) ()
   (fun l m=>leI [] l m rfl ⟨tv,za6 (by omega) _ _ _ _ _ _ _ _,zan zal _ _ _ _ _ _,zan zad _ _ _ _ _ _,tv⟩ ⟨rfl,tv⟩ ⟨Fz.r F,rfl,zar zal (zao _ _ _ _ _),zar zad (zao _ _ _ _ _),tv⟩) ?_
  rintro⟨⟩ l m;refine brd (by decide) ?_;exact clean [] (.ret (.tup [])) F (hpL n f c d [] K w s) 4 ⟨Fz.r F,rfl,rfl,rfl⟩ (zah _) rfl rfl (by simp[Out.below,SV.below]) (zb4 (by omega) _ _ _ _ _ _ _ _) ⟨Fz.r F,rfl,zar zal (zao _ _ _ _ _),zar zad (zao _ _ _ _ _),tv⟩
 ·obtain rfl:=zdu T;refine ct_of hΘ Tryz.func92 rfl (by decide) _ _ rfl rfl rfl ?_;conv=>whnf
  refine zam hΘ (X:={ y:Nat×DLn×List DLn // y.1<=ar.length+1/\y.2.1::y.2.2=mxl A (a0::ar) y.1 }) (fun y=>[(11,.va (.int .i64 y.1.1))]) (3::jr 12 17 [])
   (fun y=>[(0,.frz F),(1,docL false f (ar.length+1) c K.length d w s),(2,rwE false 148 2 encN c (y.1.2.1::y.1.2.2)),(3,rwE f 151 6 encK d K)]) 4 (fun y=>ar.length+1 - y.1.1) ⟨(0,a0,ar),jo _,(zgj _ _).symm⟩
   (fun l m=>leI [] l m rfl ⟨tv,za6 (by omega) _ _ _ _ _ _ _ _,zan zal _ _ _ _ _ _,zan zad _ _ _ _ _ _,tv⟩ ⟨rfl,tv⟩ ⟨Fz.r F,rfl,zar zal (zao _ _ _ _ _),zar zad (zao _ _ _ _ _),tv⟩) ?_
  rintro⟨⟨k,J,I⟩,M,b⟩ l m;replace M:k<=ar.length+1:=M;replace b:J::I=mxl A (a0::ar) k:=b
  have O:I.length=ar.length:=by
   have:=zoo a k;rw[<-b]at this;simpa using this
  by_cases g:k < ar.length+1
  ·have B:(k:Int) < ((ar.length+1:Nat):Int):=by omega
   have o:ar.length+1 - (k+1) < ar.length+1 - k:=by omega
   have q:k < 4611686018427387904:=by have:ar.length+1<=1000:=S;omega
   have G:=zli (e:=encN) a g b;have j:=fun x=>zgi (e:=encN) (x:=x) a g b
   rw[E k g]at j;have R:=zgh a (k+1);obtain⟨Q,U,u⟩:=R;rw[<-u]at j;refine bri B ⟨rfl,⟨js k,B⟩,rfl,_,G,?_⟩
   exact⟨⟨(k+1,Q,U),g,u⟩,o,leR [] l m rfl ⟨tv,za6 (by omega) _ _ _ _ _ _ _ _,zan zal _ _ _ _ _ _,zan zad _ _ _ _ _ _,tv⟩ ⟨cnt q,tv⟩
    ⟨Fz.r F,rfl,zar zal (rw_op rfl (j _ rfl)),zar zad (zao _ _ _ _ _),tv⟩⟩
  ·have B:¬(k:Int) < ((ar.length+1:Nat):Int):=by omega
   have p:J::I=A:=by
    rw[b,show k=(a0::ar).length by show k=ar.length+1;omega,zhu a]
   have i:docB false f (ar.length+1) c K.length d w s=(docB false f A.length c K.length d w s).ren (sig []):=by rw[a];rfl
   refine brj B ?_
   exact clean [] (.ret (.tup [])) F (hpL false f c d A K w s) 4 ⟨Fz.r F,rfl,rfl,rfl⟩ (zah _) rfl rfl (by simp[Out.below,SV.below]) (zb4 (by omega) _ _ _ _ _ _ _ _)
    ⟨Fz.r F,i,zar zal (rw_of p),zar zad (zao _ _ _ _ _),tv⟩
abbrev hpR(c d:Bool)(a b:Nat)(L:List DLn)(K:List Cel)(w:Int)(s bs:List UInt8)(p:Int):List (Nat×Ent):=[(1,docL c d L.length a K.length b w s),(2,rwE c 148 2 encN a L),(3,rwE d 151 6 encK b K),(4,mrd bs p)]
abbrev finR(c d:Bool)(a b:Nat)(L:List DLn)(K:List Cel)(w:Int)(s:List UInt8):Out->Fz->List (Nat×Ent)->Nat->Prop:=fun o _ e n0=>n0=5/\o=.ret (.tup [])/\e=[(1,docL c d L.length a K.length b w s),(2,rwE c 148 2 encN a L),(3,rwE d 151 6 encK b K),(4,.gone)]
theorem ze5{n:Nat}(h:3 < n){l e:Nat}(c d:Bool)(a b:Nat)(L:List DLn)(K:List Cel)(w:Int)(s:List UInt8):bH n [(1,docL c d l a e b w s),(2,rwE c 148 2 encN a L),(3,rwE d 151 6 encK b K),(4,.gone)]:=
 ⟨za6 h _ _ _ _ _ _ _ _,zan zal _ _ _ _ _ _,zan zad _ _ _ _ _ _,tv,tv⟩
theorem zvj{α:Type}{A B L:List α}(h:A.length=B.length){k:Nat}(a:k < B.length)(c:L=mxl A B k)(e:A[k]'(by omega)=B[k]):L=mxl A B (k+1):=by
 rw[c,<-zz7 h a,e];have h1:=zz6 h a;obtain⟨d,b⟩:=qh.1 h1;rw[<-b,List.set_getElem_self]
theorem ybq{bs:List UInt8}{p a:Int}(h:a=p){μ:Mu}:SB.cells 228 [.str bs,.int .i64 p]=SB.ren μ (.cells 228 [.str bs,.int .i64 a]):=by subst h;rfl
theorem z09{α:Type}(l:List α)(k:Nat)(x y z:α):((l.set k x).set k y).set k z=l.set k z:=by simp
theorem z5c(F:Fz)(m f:Bool)(c d:Nat)(L A:List DLn)(K:List Cel)(w:Int)(s bs:List UInt8)(q:Nat->Int)(z:Int)(hq:m=true->L=[])(hl:L.length<=1000)(a:A.length=L.length)
  (U:bs.length<=1000000000000000000)(hi:∀k,i64 (q k))(Q:getI bs 0=(z,q 0,0))(hr:∀k (h:k < L.length),getS bs (q k)=((A[k]'(by omega)).1,q (k+1),0)/\(A[k]'(by omega)).2=(L[k]'h).2):
  Ct Tryz.prog 89 [.va (.ptr ⟨4,0,0,0,0⟩),.va (.ptr ⟨1,0,0,0,0⟩)] F (hpR m f c d L K w s bs 0) 5 (finR m f c d A K w s):=by
 have I:=zgg F bs 0 z (q 0) U ⟨by decide,by decide⟩ Q;rcases L with _ | ⟨a0,ar⟩
 ·obtain rfl:A=[]:=ju a;refine ct_of hΘ Tryz.func89 rfl (by decide) _ _ rfl rfl rfl ?_;refine use I [(1,4)] rfl ⟨rfl,tv⟩ rfl ⟨zbl bs _,tv⟩ (by simp[SV.below,SA.below]) ⟨rfl,tv⟩ ?_;rintro i F1 Q n0 W ⟨rfl,rfl,rfl,rfl⟩;conv=>whnf
  refine zam hΘ (X:=Unit) (fun x=>[(11,.va (.int .i64 0))]) (3::jr 12 17 [])
   (fun x=>[(0,.frz F),(1,docL m f 0 c K.length d w s),(2,rwE m 148 2 encN c []),(3,rwE f 151 6 encK d K)]) 5 (fun x=>0) ()
   (fun o p=>leI [] o p rfl ⟨tv,za6 (by omega) _ _ _ _ _ _ _ _,zan zal _ _ _ _ _ _,zan zad _ _ _ _ _ _,tv⟩ ⟨rfl,tv⟩ ⟨Fz.r F,rfl,zar zal (zao _ _ _ _ _),zar zad (zao _ _ _ _ _),tv⟩) ?_
  rintro⟨⟩ o p;refine brd (by decide) ?_;exact clean [] (.ret (.tup [])) F [(1,docL m f 0 c K.length d w s),(2,rwE m 148 2 encN c []),(3,rwE f 151 6 encK d K),(4,.gone)] 5 ⟨Fz.r F,rfl,rfl,rfl⟩ (zah _) rfl rfl (by simp[Out.below,SV.below]) (ze5 (n:=5) (by omega) _ _ _ _ _ _ _ _) ⟨Fz.r F,rfl,zar zal (zao _ _ _ _ _),zar zad (zao _ _ _ _ _),tv⟩
 ·obtain rfl:=zdu hq;refine ct_of hΘ Tryz.func89 rfl (by decide) _ _ rfl rfl rfl ?_;refine use I [(1,4)] rfl ⟨rfl,tv⟩ rfl ⟨zbl bs _,tv⟩ (by simp[SV.below,SA.below]) ⟨rfl,tv⟩ ?_;rintro i F1 Q n0 W ⟨rfl,rfl,rfl,rfl⟩;conv=>whnf
  refine zam hΘ (X:={ y:Nat×DLn×List DLn // y.1<=ar.length+1/\y.2.1::y.2.2=mxl A (a0::ar) y.1 }) (fun y=>[(11,.va (.int .i64 y.1.1))]) (3::jr 12 17 [])
   (fun y=>[(0,.frz F),(1,docL false f (ar.length+1) c K.length d w s),(2,rwE false 148 2 encN c (y.1.2.1::y.1.2.2)),(3,rwE f 151 6 encK d K),(4,mrd bs (q y.1.1))]) 5 (fun y=>ar.length+1 - y.1.1) ⟨(0,a0,ar),jo _,(zgj _ _).symm⟩
   (fun o p=>leI [] o p rfl ⟨tv,za6 (by omega) _ _ _ _ _ _ _ _,zan zal _ _ _ _ _ _,zan zad _ _ _ _ _ _,zbl bs _,tv⟩ ⟨rfl,tv⟩ ⟨Fz.r F,rfl,zar zal (zao _ _ _ _ _),zar zad (zao _ _ _ _ _),rfl,tv⟩) ?_
  rintro⟨⟨k,T,Y⟩,V,b⟩ o p;replace V:k<=ar.length+1:=V;replace b:T::Y=mxl A (a0::ar) k:=b;by_cases g:k < ar.length+1
  ·have u:(k:Int) < ((ar.length+1:Nat):Int):=by omega
   have B:ar.length+1 - (k+1) < ar.length+1 - k:=by omega
   have E:k < 4611686018427387904:=by have:ar.length+1<=1000:=hl;omega
   have R:=zli (e:=encN) a g b;have J:=fun x=>zgi (e:=encN) (x:=x) a g b
   have M:=hr k g;have h2:=zgh a (k+1);obtain⟨Z,r2,G⟩:=h2;rw[<-G]at J;have j:=zz5 F bs (q k) (q (k+1)) _ U (hi k) M.1
   have S:[SA.str (A[k]'(by rw[a];exact g)).1,.int .i64 ((a0::ar)[k]'g).2]=encN (A[k]'(by rw[a];exact g)):=by
    rw[<-M.2];rfl
   have O:=fun x=>zop (e:=encN) (y:=x) a g b
   refine bri u ⟨rfl,⟨js k,u⟩,rfl,_,R,?_⟩;refine drawP hΘ mixed (lk [0,1,2,3] (.alt 4 (.look 5 (.look 6 (.alt 7 .done .nil))) .nil)) [1] (by kernel_rfl) ⟨rfl,?_⟩;refine use j [(1,4)] rfl ⟨rfl,tv⟩ rfl ⟨zbl bs _,tv⟩ (by simp[SV.below,SA.below]) ⟨rfl,tv⟩ ?_;rintro i F1 Q n0 W ⟨rfl,rfl,rfl,rfl⟩;refine⟨Fz.r F,rfl,rfl,⟨js k,u⟩,rfl,_,O _,Fz.r F,rfl,?_⟩
   exact⟨⟨(k+1,Z,r2),g,G⟩,B,leR [] o p rfl ⟨tv,za6 (by omega) _ _ _ _ _ _ _ _,zan zal _ _ _ _ _ _,zan zad _ _ _ _ _ _,zbl bs _,tv⟩ ⟨cnt E,tv⟩
    ⟨Fz.r F,rfl,zar zal (rw_op rfl ((zl6 _ _ _ _).trans (J _ S))),zar zad (zao _ _ _ _ _),rfl,tv⟩⟩
  ·have u:¬(k:Int) < ((ar.length+1:Nat):Int):=by omega
   have D:T::Y=A:=by
    rw[b,show k=(a0::ar).length by show k=ar.length+1;omega,zhu a]
   have l:docB false f (ar.length+1) c K.length d w s=(docB false f A.length c K.length d w s).ren (sig []):=by rw[a];rfl
   refine brj u ?_
   exact clean [] (.ret (.tup [])) F [(1,docL false f A.length c K.length d w s),(2,rwE false 148 2 encN c A),(3,rwE f 151 6 encK d K),(4,.gone)] 5 ⟨Fz.r F,rfl,rfl,rfl⟩ (zah _) rfl rfl (by simp[Out.below,SV.below]) (ze5 (n:=5) (by omega) _ _ _ _ _ _ _ _)
    ⟨Fz.r F,l,zar zal (rw_of D),zar zad (zao _ _ _ _ _),tv⟩
theorem z5e(F:Fz)(m f:Bool)(c d:Nat)(L A:List DLn)(K:List Cel)(w:Int)(s bs:List UInt8)(q:Nat->Int)(z:Int)(hq:m=true->L=[])(hl:L.length<=1000)(a:A.length=L.length)
  (U:bs.length<=1000000000000000000)(hi:∀k,i64 (q k))(Q:getI bs 0=(z,q 0,0))(hr:∀k (h:k < L.length),getI bs (q k)=((A[k]'(by omega)).2,q (k+1),0)/\(A[k]'(by omega)).1=(L[k]'h).1):
  Ct Tryz.prog 92 [.va (.ptr ⟨4,0,0,0,0⟩),.va (.ptr ⟨1,0,0,0,0⟩)] F (hpR m f c d L K w s bs 0) 5 (finR m f c d A K w s):=by
 have I:=zgg F bs 0 z (q 0) U ⟨by decide,by decide⟩ Q;rcases L with _ | ⟨a0,ar⟩
 ·obtain rfl:A=[]:=ju a;refine ct_of hΘ Tryz.func92 rfl (by decide) _ _ rfl rfl rfl ?_;refine use I [(1,4)] rfl ⟨rfl,tv⟩ rfl ⟨zbl bs _,tv⟩ (by simp[SV.below,SA.below]) ⟨rfl,tv⟩ ?_;rintro i F1 Q n0 W ⟨rfl,rfl,rfl,rfl⟩;conv=>whnf
  refine zam hΘ (X:=Unit) (fun x=>[(11,.va (.int .i64 0))]) (3::jr 12 17 [])
   (fun x=>[(0,.frz F),(1,docL m f 0 c K.length d w s),(2,rwE m 148 2 encN c []),(3,rwE f 151 6 encK d K)]) 5 (fun x=>0) ()
   (fun o p=>leI [] o p rfl ⟨tv,za6 (by omega) _ _ _ _ _ _ _ _,zan zal _ _ _ _ _ _,zan zad _ _ _ _ _ _,tv⟩ ⟨rfl,tv⟩ ⟨Fz.r F,rfl,zar zal (zao _ _ _ _ _),zar zad (zao _ _ _ _ _),tv⟩) ?_
  rintro⟨⟩ o p;refine brd (by decide) ?_;exact clean [] (.ret (.tup [])) F [(1,docL m f 0 c K.length d w s),(2,rwE m 148 2 encN c []),(3,rwE f 151 6 encK d K),(4,.gone)] 5 ⟨Fz.r F,rfl,rfl,rfl⟩ (zah _) rfl rfl (by simp[Out.below,SV.below]) (ze5 (n:=5) (by omega) _ _ _ _ _ _ _ _) ⟨Fz.r F,rfl,zar zal (zao _ _ _ _ _),zar zad (zao _ _ _ _ _),tv⟩
 ·obtain rfl:=zdu hq;refine ct_of hΘ Tryz.func92 rfl (by decide) _ _ rfl rfl rfl ?_;refine use I [(1,4)] rfl ⟨rfl,tv⟩ rfl ⟨zbl bs _,tv⟩ (by simp[SV.below,SA.below]) ⟨rfl,tv⟩ ?_;rintro i F1 Q n0 W ⟨rfl,rfl,rfl,rfl⟩;conv=>whnf
  refine zam hΘ (X:={ y:Nat×DLn×List DLn // y.1<=ar.length+1/\y.2.1::y.2.2=mxl A (a0::ar) y.1 }) (fun y=>[(11,.va (.int .i64 y.1.1))]) (3::jr 12 17 [])
   (fun y=>[(0,.frz F),(1,docL false f (ar.length+1) c K.length d w s),(2,rwE false 148 2 encN c (y.1.2.1::y.1.2.2)),(3,rwE f 151 6 encK d K),(4,mrd bs (q y.1.1))]) 5 (fun y=>ar.length+1 - y.1.1) ⟨(0,a0,ar),jo _,(zgj _ _).symm⟩
   (fun o p=>leI [] o p rfl ⟨tv,za6 (by omega) _ _ _ _ _ _ _ _,zan zal _ _ _ _ _ _,zan zad _ _ _ _ _ _,zbl bs _,tv⟩ ⟨rfl,tv⟩ ⟨Fz.r F,rfl,zar zal (zao _ _ _ _ _),zar zad (zao _ _ _ _ _),rfl,tv⟩) ?_
  rintro⟨⟨k,T,Y⟩,V,b⟩ o p;replace V:k<=ar.length+1:=V;replace b:T::Y=mxl A (a0::ar) k:=b;by_cases g:k < ar.length+1
  ·have u:(k:Int) < ((ar.length+1:Nat):Int):=by omega
   have B:ar.length+1 - (k+1) < ar.length+1 - k:=by omega
   have E:k < 4611686018427387904:=by have:ar.length+1<=1000:=hl;omega
   have R:=zli (e:=encN) a g b;have J:=fun x=>zgi (e:=encN) (x:=x) a g b
   have M:=hr k g;have h2:=zgh a (k+1);obtain⟨Z,r2,G⟩:=h2;rw[<-G]at J;have j:=zgg F bs (q k) _ (q (k+1)) U (hi k) M.1
   have S:[SA.str ((a0::ar)[k]'g).1,.int .i64 (A[k]'(by rw[a];exact g)).2]=encN (A[k]'(by rw[a];exact g)):=by
    rw[<-M.2];rfl
   have O:=fun x=>zop (e:=encN) (y:=x) a g b
   refine bri u ⟨rfl,⟨js k,u⟩,rfl,_,R,?_⟩;refine drawP hΘ mixed (lk [0,1,2,3] (.alt 4 (.look 5 (.look 6 (.alt 7 .done .nil))) .nil)) [1] (by kernel_rfl) ⟨rfl,?_⟩;refine use j [(1,4)] rfl ⟨rfl,tv⟩ rfl ⟨zbl bs _,tv⟩ (by simp[SV.below,SA.below]) ⟨rfl,tv⟩ ?_;rintro i F1 Q n0 W ⟨rfl,rfl,rfl,rfl⟩;refine⟨Fz.r F,rfl,rfl,⟨js k,u⟩,rfl,_,O _,Fz.r F,rfl,?_⟩
   exact⟨⟨(k+1,Z,r2),g,G⟩,B,leR [] o p rfl ⟨tv,za6 (by omega) _ _ _ _ _ _ _ _,zan zal _ _ _ _ _ _,zan zad _ _ _ _ _ _,zbl bs _,tv⟩ ⟨cnt E,tv⟩
    ⟨Fz.r F,rfl,zar zal (rw_op rfl ((zl6 _ _ _ _).trans (J _ S))),zar zad (zao _ _ _ _ _),rfl,tv⟩⟩
  ·have u:¬(k:Int) < ((ar.length+1:Nat):Int):=by omega
   have D:T::Y=A:=by
    rw[b,show k=(a0::ar).length by show k=ar.length+1;omega,zhu a]
   have l:docB false f (ar.length+1) c K.length d w s=(docB false f A.length c K.length d w s).ren (sig []):=by rw[a];rfl
   refine brj u ?_
   exact clean [] (.ret (.tup [])) F [(1,docL false f A.length c K.length d w s),(2,rwE false 148 2 encN c A),(3,rwE f 151 6 encK d K),(4,.gone)] 5 ⟨Fz.r F,rfl,rfl,rfl⟩ (zah _) rfl rfl (by simp[Out.below,SV.below]) (ze5 (n:=5) (by omega) _ _ _ _ _ _ _ _)
    ⟨Fz.r F,l,zar zal (rw_of D),zar zad (zao _ _ _ _ _),tv⟩
theorem z5f(F:Fz)(f D:Bool)(c d:Nat)(L:List DLn)(K A:List Cel)(w:Int)(s:List UInt8)(Z:D=true->K=[])(Y:K.length<=1000)(a:A.length=K.length)
  (W:∀k (h:k < K.length),A[k]'(by omega)=if(K[k]'h).sum=true then K[k]'h else{ K[k]'h with value:=0 }):
  Ct Tryz.prog 93 [.va .nilptr,.va (.ptr ⟨1,0,0,0,0⟩)] F (hpL f D c d L K w s) 4 (finL f D c d L A w s):=by
 rcases K with _ | ⟨a0,ar⟩
 ·obtain rfl:A=[]:=ju a;refine ct_of hΘ Tryz.func93 rfl (by decide) _ _ rfl rfl rfl ?_;conv=>whnf
  refine zam hΘ (X:=Unit) (fun x=>[(12,.va (.int .i64 0))]) (3::4::jr 13 33 [])
   (fun x=>[(0,.frz F),(1,docL f D L.length c 0 d w s),(2,rwE f 148 2 encN c L),(3,rwE D 151 6 encK d [])]) 4 (fun x=>0) ()
   (fun n o=>leI [] n o rfl ⟨tv,za6 (by omega) _ _ _ _ _ _ _ _,zan zal _ _ _ _ _ _,zan zad _ _ _ _ _ _,tv⟩ ⟨rfl,tv⟩ ⟨Fz.r F,rfl,zar zal (zao _ _ _ _ _),zar zad (zao _ _ _ _ _),tv⟩) ?_
  rintro⟨⟩ n o;refine brd (by decide) ?_;exact clean [] (.ret (.tup [])) F (hpL f D c d L [] w s) 4 ⟨Fz.r F,rfl,rfl,rfl⟩ (zah _) rfl rfl (by simp[Out.below,SV.below]) (zb4 (by omega) _ _ _ _ _ _ _ _) ⟨Fz.r F,rfl,zar zal (zao _ _ _ _ _),zar zad (zao _ _ _ _ _),tv⟩
 ·obtain rfl:=zdu Z;refine ct_of hΘ Tryz.func93 rfl (by decide) _ _ rfl rfl rfl ?_;conv=>whnf
  refine zam hΘ (X:={ y:Nat×Cel×List Cel // y.1<=ar.length+1/\y.2.1::y.2.2=mxl A (a0::ar) y.1 }) (fun y=>[(12,.va (.int .i64 y.1.1))]) (3::4::jr 13 33 [])
   (fun y=>[(0,.frz F),(1,docL f false L.length c (ar.length+1) d w s),(2,rwE f 148 2 encN c L),(3,rwE false 151 6 encK d (y.1.2.1::y.1.2.2))]) 4 (fun y=>ar.length+1 - y.1.1) ⟨(0,a0,ar),jo _,(zgj _ _).symm⟩
   (fun n o=>leI [] n o rfl ⟨tv,za6 (by omega) _ _ _ _ _ _ _ _,zan zal _ _ _ _ _ _,zan zad _ _ _ _ _ _,tv⟩ ⟨rfl,tv⟩ ⟨Fz.r F,rfl,zar zal (zao _ _ _ _ _),zar zad (zao _ _ _ _ _),tv⟩) ?_
  rintro⟨⟨k,Q,T⟩,S,b⟩ n o;replace S:k<=ar.length+1:=S;replace b:Q::T=mxl A (a0::ar) k:=b;by_cases g:k < ar.length+1
  ·have B:(k:Int) < ((ar.length+1:Nat):Int):=by omega
   have l:ar.length+1 - (k+1) < ar.length+1 - k:=by omega
   have m:k < 4611686018427387904:=by have:ar.length+1<=1000:=Y;omega
   have p:=zli (e:=encK) a g b;have G:=fun x=>zgi (e:=encK) (x:=x) a g b
   have i:=W k g;have V:=zgh a (k+1);obtain⟨R,U,j⟩:=V;rw[<-j]at G;have J:=zvj a g b;rw[<-j]at J
   have M:((a0::ar)[k]'g).sum=true\/((a0::ar)[k]'g).sum=false:=by
    cases((a0::ar)[k]'g).sum
    ·exact .inr rfl
    ·exact .inl rfl
   refine Or.elim M (fun I=>?_) (fun I=>?_)
   ·rw[if_pos I]at i;have u:=J i;refine bri B ⟨rfl,⟨js k,B⟩,rfl,_,p,?_⟩;refine br (fun _=>?_) (fun h=>absurd (I.symm.trans h) (by simp))
    exact⟨⟨(k+1,R,U),g,j⟩,l,leR [] n o rfl ⟨tv,za6 (by omega) _ _ _ _ _ _ _ _,zan zal _ _ _ _ _ _,zan zad _ _ _ _ _ _,tv⟩ ⟨cnt m,tv⟩
     ⟨Fz.r F,rfl,zar zal (zao _ _ _ _ _),zar zad (rw_of u),tv⟩⟩
   ·rw[if_neg (by rw[I];decide)]at i;have O:[SA.int .i64 ((a0::ar)[k]'g).row,.int .i64 ((a0::ar)[k]'g).col,.bool ((a0::ar)[k]'g).sum,.int .i64 0,.int .i64 ((a0::ar)[k]'g).top,.int .i64 ((a0::ar)[k]'g).left]=encK (A[k]'(by rw[a];exact g)):=by rw[i];rfl
    refine bri B ⟨rfl,⟨js k,B⟩,rfl,_,p,?_⟩;refine br (fun h=>absurd (I.symm.trans h) (by simp)) (fun _=>?_);refine⟨rfl,_,p,?_⟩
    exact⟨⟨(k+1,R,U),g,j⟩,l,leR [] n o rfl ⟨tv,za6 (by omega) _ _ _ _ _ _ _ _,zan zal _ _ _ _ _ _,zan zad _ _ _ _ _ _,tv⟩ ⟨cnt m,tv⟩
     ⟨Fz.r F,rfl,zar zal (zao _ _ _ _ _),zar zad (rw_op rfl (G _ O)),tv⟩⟩
  ·have B:¬(k:Int) < ((ar.length+1:Nat):Int):=by omega
   have E:Q::T=A:=by
    rw[b,show k=(a0::ar).length by show k=ar.length+1;omega,zhu a]
   have q:docB f false L.length c (ar.length+1) d w s=(docB f false L.length c A.length d w s).ren (sig []):=by rw[a];rfl
   refine brj B ?_
   exact clean [] (.ret (.tup [])) F (hpL f false c d L A w s) 4 ⟨Fz.r F,rfl,rfl,rfl⟩ (zah _) rfl rfl (by simp[Out.below,SV.below]) (zb4 (by omega) _ _ _ _ _ _ _ _)
    ⟨Fz.r F,q,zar zal (zao _ _ _ _ _),zar zad (rw_of E),tv⟩
theorem z5g(F:Fz)(l J:Bool)(i j:Nat)(L:List DLn)(K A:List Cel)(w:Int)(s bs:List UInt8)(q:Nat->Int)(z:Int)(hq:J=true->K=[])(hl:K.length<=1000)(c:A.length=K.length)
  (V:bs.length<=1000000000000000000)(hi:∀k,i64 (q k))(O:getI bs 0=(z,q 0,0))
  (hr:∀k (h:k < K.length),((K[k]'h).sum=true/\q (k+1)=q k/\A[k]'(by omega)=K[k]'h)\/
   ((K[k]'h).sum=false/\∃a b v,i64 a/\i64 b/\getI bs (q k)=((K[k]'h).row,a,0)/\getI bs a=((K[k]'h).col,b,0)/\getI bs b=(v,q (k+1),0)/\A[k]'(by omega)={ K[k]'h with value:=v })):
  Ct Tryz.prog 93 [.va (.ptr ⟨4,0,0,0,0⟩),.va (.ptr ⟨1,0,0,0,0⟩)] F (hpR l J i j L K w s bs 0) 5 (finR l J i j L A w s):=by
 have S:=zgg F bs 0 z (q 0) V ⟨by decide,by decide⟩ O;rcases K with _ | ⟨a0,ar⟩
 ·obtain rfl:A=[]:=ju c;refine ct_of hΘ Tryz.func93 rfl (by decide) _ _ rfl rfl rfl ?_;refine use S [(1,4)] rfl ⟨rfl,tv⟩ rfl ⟨zbl bs _,tv⟩ (by simp[SV.below,SA.below]) ⟨rfl,tv⟩ ?_;rintro f F1 O n0 W ⟨rfl,rfl,rfl,rfl⟩;conv=>whnf
  refine zam hΘ (X:=Unit) (fun x=>[(12,.va (.int .i64 0))]) (3::4::jr 13 33 [])
   (fun x=>[(0,.frz F),(1,docL l J L.length i 0 j w s),(2,rwE l 148 2 encN i L),(3,rwE J 151 6 encK j [])]) 5 (fun x=>0) ()
   (fun B D=>leI [] B D rfl ⟨tv,za6 (by omega) _ _ _ _ _ _ _ _,zan zal _ _ _ _ _ _,zan zad _ _ _ _ _ _,tv⟩ ⟨rfl,tv⟩ ⟨Fz.r F,rfl,zar zal (zao _ _ _ _ _),zar zad (zao _ _ _ _ _),tv⟩) ?_
  rintro⟨⟩ B D;refine brd (by decide) ?_;exact clean [] (.ret (.tup [])) F [(1,docL l J L.length i 0 j w s),(2,rwE l 148 2 encN i L),(3,rwE J 151 6 encK j []),(4,.gone)] 5 ⟨Fz.r F,rfl,rfl,rfl⟩ (zah _) rfl rfl (by simp[Out.below,SV.below]) (ze5 (n:=5) (by omega) _ _ _ _ _ _ _ _) ⟨Fz.r F,rfl,zar zal (zao _ _ _ _ _),zar zad (zao _ _ _ _ _),tv⟩
 ·obtain rfl:=zdu hq;refine ct_of hΘ Tryz.func93 rfl (by decide) _ _ rfl rfl rfl ?_;refine use S [(1,4)] rfl ⟨rfl,tv⟩ rfl ⟨zbl bs _,tv⟩ (by simp[SV.below,SA.below]) ⟨rfl,tv⟩ ?_;rintro f F1 O n0 W ⟨rfl,rfl,rfl,rfl⟩;conv=>whnf
  refine zam hΘ (X:={ y:Nat×Cel×List Cel // y.1<=ar.length+1/\y.2.1::y.2.2=mxl A (a0::ar) y.1 }) (fun y=>[(12,.va (.int .i64 y.1.1))]) (3::4::jr 13 33 [])
   (fun y=>[(0,.frz F),(1,docL l false L.length i (ar.length+1) j w s),(2,rwE l 148 2 encN i L),(3,rwE false 151 6 encK j (y.1.2.1::y.1.2.2)),(4,mrd bs (q y.1.1))]) 5 (fun y=>ar.length+1 - y.1.1) ⟨(0,a0,ar),jo _,(zgj _ _).symm⟩
   (fun B D=>leI [] B D rfl ⟨tv,za6 (by omega) _ _ _ _ _ _ _ _,zan zal _ _ _ _ _ _,zan zad _ _ _ _ _ _,zbl bs _,tv⟩ ⟨rfl,tv⟩ ⟨Fz.r F,rfl,zar zal (zao _ _ _ _ _),zar zad (zao _ _ _ _ _),rfl,tv⟩) ?_
  rintro⟨⟨k,a1,r1⟩,hk,d⟩ B D;replace hk:k<=ar.length+1:=hk;replace d:a1::r1=mxl A (a0::ar) k:=d;by_cases g:k < ar.length+1
  ·have M:(k:Int) < ((ar.length+1:Nat):Int):=by omega
   have o:ar.length+1 - (k+1) < ar.length+1 - k:=by omega
   have p:k < 4611686018427387904:=by have:ar.length+1<=1000:=hl;omega
   have E:=zli (e:=encK) c g d;have T:=fun x=>zgi (e:=encK) (x:=x) c g d
   have h2:=zgh c (k+1);obtain⟨a2,r2,m⟩:=h2;rw[<-m]at T;have U:=zvj c g d;rw[<-m]at U;have u:=fun x=>zop (e:=encK) (y:=x) c g d
   refine Or.elim (hr k g) (fun Q=>?_) (fun Q=>?_)
   ·have I:=U Q.2.2;have ab:=Q.2.1;refine bri M ⟨rfl,⟨js k,M⟩,rfl,_,E,?_⟩;refine br (fun _=>?_) (fun h=>absurd (Q.1.symm.trans h) (by simp))
    exact⟨⟨(k+1,a2,r2),g,m⟩,o,leR [] B D rfl ⟨tv,za6 (by omega) _ _ _ _ _ _ _ _,zan zal _ _ _ _ _ _,zan zad _ _ _ _ _ _,zbl bs _,tv⟩ ⟨cnt p,tv⟩
     ⟨Fz.r F,rfl,zar zal (zao _ _ _ _ _),zar zad (rw_of I),ybq ab,tv⟩⟩
   ·have ac:=Q.1;have ad:=Q.2;obtain⟨a,b,v,ia,ib,ga,gb,gv,aa⟩:=ad;have c0:=zgg F bs (q k) _ a V (hi k) ga;have Y:=zgg F bs a _ b V ia gb;have Z:=zgg F bs b _ (q (k+1)) V ib gv;have ae:[SA.int .i64 ((a0::ar)[k]'g).row,.int .i64 ((a0::ar)[k]'g).col,.bool ((a0::ar)[k]'g).sum,.int .i64 v,.int .i64 ((a0::ar)[k]'g).top,.int .i64 ((a0::ar)[k]'g).left]=encK (A[k]'(by rw[c];exact g)):=by rw[aa];rfl
    refine bri M ⟨rfl,⟨js k,M⟩,rfl,_,E,?_⟩;refine br (fun h=>absurd (ac.symm.trans h) (by simp)) (fun _=>?_);refine use c0 [(1,4)] rfl ⟨rfl,tv⟩ rfl ⟨zbl bs _,tv⟩ (by simp[SV.below,SA.below]) ⟨rfl,tv⟩ ?_;rintro f F1 O n0 W ⟨rfl,rfl,rfl,rfl⟩;refine use Y [(1,4)] rfl ⟨rfl,tv⟩ rfl ⟨zbl bs _,tv⟩ (by simp[SV.below,SA.below]) ⟨rfl,tv⟩ ?_;rintro f F1 O n0 W ⟨rfl,rfl,rfl,rfl⟩;refine use Z [(1,4)] rfl ⟨rfl,tv⟩ rfl ⟨zbl bs _,tv⟩ (by simp[SV.below,SA.below]) ⟨rfl,tv⟩ ?_;rintro f F1 O n0 W ⟨rfl,rfl,rfl,rfl⟩;refine⟨rfl,_,E,rfl,_,u _,rfl,_,(congrArg (·[0+(k:Int).toNat]?) (zl6 _ _ _ _)).trans (u _),?_⟩
    exact⟨⟨(k+1,a2,r2),g,m⟩,o,leR [] B D rfl ⟨tv,za6 (by omega) _ _ _ _ _ _ _ _,zan zal _ _ _ _ _ _,zan zad _ _ _ _ _ _,zbl bs _,tv⟩ ⟨cnt p,tv⟩
     ⟨Fz.r F,rfl,zar zal (zao _ _ _ _ _),zar zad (rw_op rfl ((z09 _ _ _ _ _).trans (T _ ae))),rfl,tv⟩⟩
  ·have M:¬(k:Int) < ((ar.length+1:Nat):Int):=by omega
   have R:a1::r1=A:=by
    rw[d,show k=(a0::ar).length by show k=ar.length+1;omega,zhu c]
   have G:docB l false L.length i (ar.length+1) j w s=(docB l false L.length i A.length j w s).ren (sig []):=by rw[c];rfl
   refine brj M ?_
   exact clean [] (.ret (.tup [])) F [(1,docL l false L.length i A.length j w s),(2,rwE l 148 2 encN i L),(3,rwE false 151 6 encK j A),(4,.gone)] 5 ⟨Fz.r F,rfl,rfl,rfl⟩ (zah _) rfl rfl (by simp[Out.below,SV.below]) (ze5 (n:=5) (by omega) _ _ _ _ _ _ _ _)
    ⟨Fz.r F,G,zar zal (zao _ _ _ _ _),zar zad (rw_of R),tv⟩
theorem z5h(F:Fz)(c d:Bool)(a b:Nat)(L:List DLn)(K:List Cel)(w:Int)(s:List UInt8):
  Ct Tryz.prog 96 [.va .nilptr,.va (.ptr ⟨1,0,0,0,0⟩)] F (hpL c d a b L K w s) 4 (finL c d a b L K 0 []):=by
 refine ct_of hΘ Tryz.func96 rfl (by decide) _ _ rfl rfl rfl ?_;exact clean [] (.ret (.tup [])) F (hpL c d a b L K 0 []) 4 ⟨Fz.r F,rfl,rfl,rfl⟩ (zah _) rfl rfl (by simp[Out.below,SV.below]) (zb4 (by omega) _ _ _ _ _ _ _ _) ⟨Fz.r F,rfl,zar zal (zao _ _ _ _ _),zar zad (zao _ _ _ _ _),tv⟩
theorem z5i(F:Fz)(g h:Bool)(e f:Nat)(L:List DLn)(K:List Cel)(w m z:Int)(s i bs:List UInt8)(a b c:Int)(l:bs.length<=1000000000000000000)(A:i64 a)(ib:i64 b)(u:getI bs 0=(m,a,0))(x:getI bs a=(z,b,0))(y:getS bs b=(i,c,0)):
  Ct Tryz.prog 96 [.va (.ptr ⟨4,0,0,0,0⟩),.va (.ptr ⟨1,0,0,0,0⟩)] F (hpR g h e f L K w s bs 0) 5 (finR g h e f L K m i):=by
 have q:=zgg F bs 0 _ a l ⟨by decide,by decide⟩ u;have j:=zgg F bs a _ b l A x;have k:=zz5 F bs b c i l ib y;refine ct_of hΘ Tryz.func96 rfl (by decide) _ _ rfl rfl rfl ?_;refine use q [(1,4)] rfl ⟨rfl,tv⟩ rfl ⟨zbl bs _,tv⟩ (by simp[SV.below,SA.below]) ⟨rfl,tv⟩ ?_;rintro d F1 o n0 p ⟨rfl,rfl,rfl,rfl⟩;refine use j [(1,4)] rfl ⟨rfl,tv⟩ rfl ⟨zbl bs _,tv⟩ (by simp[SV.below,SA.below]) ⟨rfl,tv⟩ ?_;rintro d F1 o n0 p ⟨rfl,rfl,rfl,rfl⟩;refine use k [(1,4)] rfl ⟨rfl,tv⟩ rfl ⟨zbl bs _,tv⟩ (by simp[SV.below,SA.below]) ⟨rfl,tv⟩ ?_;rintro d F1 o n0 p ⟨rfl,rfl,rfl,rfl⟩;exact clean [] (.ret (.tup [])) F [(1,docL g h L.length e K.length f m i),(2,rwE g 148 2 encN e L),(3,rwE h 151 6 encK f K),(4,.gone)] 5 ⟨Fz.r F,rfl,rfl,rfl⟩ (zah _) rfl rfl (by simp[Out.below,SV.below]) (ze5 (n:=5) (by omega) _ _ _ _ _ _ _ _) ⟨Fz.r F,rfl,zar zal (zao _ _ _ _ _),zar zad (zao _ _ _ _ _),tv⟩
def posn(a:List UInt8)(C:List (List UInt8))(k:Nat):List UInt8:=a++(C.take k).flatten
theorem zim{a:List UInt8}{C:List (List UInt8)}{k:Nat}(h:k < C.length):posn a C (k+1)=posn a C k++C[k]:=by
 unfold posn;rw[qe h,yq,qn];simp
theorem zhf(a:List UInt8){C:List (List UInt8)}{k:Nat}(h:k < C.length):a++C.flatten=posn a C k++(C[k]++(C.drop (k+1)).flatten):=by
 unfold posn
 conv=>lhs;rw[<-yl k C,qy h,yq,jy]
 rw[qn]
theorem z9h(a:List UInt8)(C:List (List UInt8))(k:Nat):(posn a C k).length<=(a++C.flatten).length:=by
 rcases qcb k C.length with h | h
 ·rw[zhf a h,qb];omega
 ·unfold posn;rw[qi h];exact qg _
def posI(a:List UInt8)(C:List (List UInt8))(k:Nat):Int:=((posn a C k).length:Nat)
theorem zow{a:List UInt8}{C:List (List UInt8)}(b:(a++C.flatten).length<=1000000000000000000)(k:Nat):i64 (posI a C k):=by
 have:=z9h a C k;unfold posI i64;omega
theorem nums1{n:Int}(h:okI n):zae [n]=putI n:=by simp[zae,zem h]
theorem zog{n:Int}(h:okI n)(C:List (List UInt8)):getI (zae [n]++C.flatten) 0=(n,posI (zae [n]) C 0,0):=by
 have h1:=zcq [] C.flatten h;have e:posI (zae [n]) C 0=((putI n).length:Nat):=by unfold posI posn;rw[nums1 h];simp
 rw[e,nums1 h];exact h1
theorem z4y{a:List UInt8}{C:List (List UInt8)}{k:Nat}(h:k < C.length){t:List UInt8}(c:t.length<=65536)(b:C[k]=(putSR t).1):getS (a++C.flatten) (posI a C k)=(t,posI a C (k+1),0):=by
 rw[zhf a h,b,posI,zkc _ _ _ c,posI,zim h,b]
theorem z4x{a:List UInt8}{C:List (List UInt8)}{k:Nat}(h:k < C.length){n:Int}(c:okI n)(b:C[k]=putI n):getI (a++C.flatten) (posI a C k)=(n,posI a C (k+1),0):=by
 rw[zhf a h,b,posI,zcq _ _ c,posI,zim h,b]
theorem zxb{c:List UInt8}{C:List (List UInt8)}{k:Nat}(h:k < C.length){x y z:Int}(m:okI x)(n:okI y)(o:okI z)(i:C[k]=putI x++(putI y++putI z))(j:(c++C.flatten).length<=1000000000000000000):
  ∃a b:Int,i64 a/\i64 b/\getI (c++C.flatten) (posI c C k)=(x,a,0)/\getI (c++C.flatten) a=(y,b,0)/\getI (c++C.flatten) b=(z,posI c C (k+1),0):=by
 have e:=zhf c h;have d:c++C.flatten=posn c C k++(putI x++(putI y++(putI z++(C.drop (k+1)).flatten))):=by rw[e,i];simp only[qn]
 have f:c++C.flatten=(posn c C k++putI x)++(putI y++(putI z++(C.drop (k+1)).flatten)):=by rw[d];simp only[qn]
 have g:c++C.flatten=(posn c C k++putI x++putI y)++(putI z++(C.drop (k+1)).flatten):=by rw[d];simp only[qn]
 have l:posn c C (k+1)=posn c C k++putI x++putI y++putI z:=by rw[zim h,i];simp only[qn]
 refine⟨((posn c C k++putI x).length:Nat),((posn c C k++putI x++putI y).length:Nat),?_,?_,?_,?_,?_⟩
 ·have:=congrArg List.length f;simp only[qb]at this j ⊢;unfold i64;omega
 ·have:=congrArg List.length g;simp only[qb]at this j ⊢;unfold i64;omega
 ·rw[posI,d];exact zcq _ _ m
 ·rw[f];exact zcq _ _ n
 ·rw[posI,l,g];exact zcq _ _ o
def zh6(c:Cel):List UInt8:=if c.sum=true then []else zae [c.row,c.col,c.value]
theorem zjv:∀l:List Cel,(l.map zh6).flatten=((l.filter (keepQ false)).map fun c=>zae [c.row,c.col,c.value]).flatten
 |[]=>rfl
 |c::r=>by
  rw[q8,jy,zjv r,List.filter_cons];by_cases h:c.sum=true
  ·have e:keepQ false c=false:=by unfold keepQ;rw[h];rfl
   rw[zh6,if_pos h,e];rfl
  ·have h:c.sum=false:=by simpa using h
   have e:keepQ false c=true:=by unfold keepQ;rw[h];rfl
   rw[zh6,if_neg (by rw[h];decide),e];rfl
theorem zdk{n:Int}(h:-1000000000000000<=n/\n<=1000000000000000):okI n:=by unfold okI;omega
theorem z1o{L:List DLn}(c:L.length<=1000)(b:∀l∈L,l.1.length<=65536)(a:(ptext L).length<=1000000000000000000):
  ∃q:Nat->Int,(∀k,i64 (q k))/\getI (ptext L) 0=((L.length:Int),q 0,0)/\∀k (h:k < L.length),getS (ptext L) (q k)=((L[k]'h).1,q (k+1),0):=by
 have e:ptext L=zae [(L.length:Int)]++(L.map fun x=>(putSR x.1).1).flatten:=rfl;rw[e]at a ⊢;refine⟨posI (zae [(L.length:Int)]) (L.map fun x=>(putSR x.1).1),zow a,zog (zdk (by omega)) _,fun k h=>?_⟩;exact z4y (by rw[qa];exact h) (b _ (qz h)) (by rw[yt])
theorem zz4{L:List DLn}(m:L.length<=1000)(j:∀l∈L,okI l.2)(d:(pmot L).length<=1000000000000000000):
  ∃q:Nat->Int,(∀k,i64 (q k))/\getI (pmot L) 0=((L.length:Int),q 0,0)/\∀k (h:k < L.length),getI (pmot L) (q k)=((L[k]'h).2,q (k+1),0):=by
 obtain⟨a,f⟩:∃a,zae [(L.length:Int)]=a:=⟨_,rfl⟩
 obtain⟨C,b⟩:∃C,L.map (fun x=>zae [x.2])=C:=⟨_,rfl⟩
 have g:getI (a++C.flatten) 0=((L.length:Int),posI a C 0,0):=by
  rw[<-f];exact zog (zdk (by omega)) C
 have e:pmot L=a++C.flatten:=by rw[<-f,<-b];rfl
 rw[e]at d ⊢;refine⟨posI a C,zow d,g,fun k h=>?_⟩;have h1:=j _ (qz h);have i:k < C.length:=by rw[<-b,qa];exact h
 have c:C[k]=putI (L[k]'h).2:=by
  subst b;rw[yt,nums1 h1]
 exact z4x i h1 c
theorem zx5{K:List Cel}(n:K.length<=1000)(o:∀c∈K,okI c.row/\okI c.col/\okI c.value)(f:(zcs false K).length<=1000000000000000000):
  ∃(q:Nat->Int) (z:Int),(∀k,i64 (q k))/\getI (zcs false K) 0=(z,q 0,0)/\∀k (h:k < K.length),((K[k]'h).sum=true/\q (k+1)=q k)\/
   ((K[k]'h).sum=false/\∃a b,i64 a/\i64 b/\getI (zcs false K) (q k)=((K[k]'h).row,a,0)/\getI (zcs false K) a=((K[k]'h).col,b,0)/\getI (zcs false K) b=((K[k]'h).value,q (k+1),0)):=by
 have p:(K.filter (keepQ false)).length<=1000:=q5 (qae _ _) n
 have e:zcs false K=zae [((K.filter (keepQ false)).length:Int)]++(K.map zh6).flatten:=by
  rw[zjv];rfl
 rw[e]at f ⊢;refine⟨posI (zae [((K.filter (keepQ false)).length:Int)]) (K.map zh6),_,zow f,zog (zdk (by omega)) _,fun k h=>?_⟩;have g:k < (K.map zh6).length:=by rw[qa];exact h
 by_cases d:(K[k]'h).sum=true
 ·refine .inl ⟨d,?_⟩;have m:(K.map zh6)[k]=[]:=by rw[yt,zh6,if_pos d]
  rw[posI,posI,zim g,m,jp]
 ·have d:(K[k]'h).sum=false:=by simpa using d
  obtain⟨i,j,l⟩:=o _ (qz h);refine .inr ⟨d,zxb g i j l ?_ f⟩;rw[yt,zh6,if_neg (by rw[d];decide)];simp only[zae,q8,yx,jy,qas,zem i,zem j,zem l,jp]
theorem z0p{w h:Int}{s:List UInt8}(f:okI w)(d:okI h)(k:s.length<=65536):
  ∃a b c:Int,i64 a/\i64 b/\getI (zae [w,h]++(putSR s).1) 0=(w,a,0)/\getI (zae [w,h]++(putSR s).1) a=(h,b,0)/\getS (zae [w,h]++(putSR s).1) b=(s,c,0):=by
 have l:=zin w f;have m:=zin h d
 have e:zae [w,h]++(putSR s).1=putI w++(putI h++((putSR s).1++[])):=by
  simp only[zae,q8,yx,jy,qas,zem f,zem d,jp,qn]
 have i:=zcq [] (putI h++((putSR s).1++[])) f;have j:=zcq (putI w) ((putSR s).1++[]) d;have g:=zkc (putI w++putI h) [] s k;rw[e];rw[qn (putI w)]at g;refine⟨((putI w).length:Nat),((putI w++putI h).length:Nat),_,?_,?_,i,j,g⟩
 ·unfold i64;omega
 ·rw[qb];unfold i64;omega
theorem zif(F:Fz)(hM:MLF F)(sk:SA)(m:Mig)(p:Int)(hp:1<=p/\p<=8)(g:FuncId)(a1 b1:SA)(d:Dc)(hk:KpsAt F sk m.keep)(Z:short m.keep)(aj:m.keep.length < 1000000)(hD:DocAt F a1 b1 d)(O:DcSmall d)(hd:docOk d=true)
  (n o:Bool)(i j:Nat)(L M:List DLn)(K J:List Cel)(w T:Int)(s S:List UInt8)
  (h0:zak p m.keep=[]->M=L/\J=K/\T=w/\S=s)
  (h1:zak p m.keep=[(6,0)]->∀F1,Ct Tryz.prog g [.va .nilptr,.va (.ptr ⟨1,0,0,0,0⟩)] F1 (hpL n o i j L K w s) 4 (finL n o i j M J T S))
  (h2:zak p m.keep≠[]->zak p m.keep≠[(6,0)]->∀F1,Ct Tryz.prog g [.va (.ptr ⟨4,0,0,0,0⟩),.va (.ptr ⟨1,0,0,0,0⟩)] F1 (hpR n o i j L K w s (zdf p (zak p m.keep) (propB p d)).1 0) 5 (finR n o i j M J T S)):
  Ct Tryz.prog 88 [.agg (migS m sk),.agg (docS a1 b1 d.w d.bits),.va (.int .i64 p),.va (.fn (.func g) [⟨1,0,0,0,0⟩])] F (hpL n o i j L K w s) 4 (finL n o i j M J T S):=by
 have k:=zlo F sk m p hk Z aj;have R:=zhz Z p;obtain⟨t,ht⟩:∃t,zak p m.keep=t:=⟨_,rfl⟩
 rw[ht]at k h0 h1 h2 R;obtain⟨bs,ai⟩:∃bs,(zdf p t (propB p d)).1=bs:=⟨_,rfl⟩
 have am:=zc0 (p:=p) hd;have X:=fun F1 (h:Fz.le F F1) V hb=>zt4 F1 (hM.mono h) V t p (propB p d) hb R (by omega)
 rw[ai]at X h2;have aa:=fun F1 V hb=>zqo F1 V t hb R
 obtain⟨id,src,al,ak,ks⟩:=m;obtain⟨kn,kb,ke,kc,kL,kr,rfl,k1,k2,k3,k4⟩:=hk;obtain⟨an,ab,ae,ac,bn,bb,be,bc,rfl,rfl,hL,hK,Y⟩:=hD;have af:=fun F1 (h:Fz.le F F1)=>z0l pfun F1 an ab ae ac bn bb be bc d (hL.mono h) (hK.mono h) O.l O.c O.b Y p hp
 have ad:pAns p d=.ret (.tup [.va (.str (propB p d)),.va (.int .i64 0)]):=by rw[pAns,if_pos hd,if_pos hd]
 simp only[ad]at af;clear ad ht
 have Q:t=[]\/t=[(6,0)]\/(0 < t.length/\t≠[]/\t≠[(6,0)]):=by
  by_cases e:t=[]
  ·exact .inl e
  ·by_cases W:t=[(6,0)]
   ·exact .inr (.inl W)
   ·exact .inr (.inr ⟨qbc.2 e,e,W⟩)
 refine Or.elim Q (fun e=>?_) (fun Q=>Or.elim Q (fun e=>?_) (fun e=>?_))
 ·subst e;obtain⟨rfl,rfl,rfl,rfl⟩:=h0 rfl;refine ct_of hΘ Tryz.func88 rfl (by decide) _ _ rfl rfl rfl ?_;refine useFo k rfl (zaa _) rfl ?_;rintro _ F1 h ⟨V,rfl,a⟩;obtain⟨G,B,E,D,A,I,rfl,q,u,x,y⟩:=a;refine bre (by decide) ?_;exact clean [] (.ret (.tup [])) F1 (hpL n o i j M J T S) 4 ⟨h,rfl,rfl,rfl⟩ (zah _) rfl rfl (by simp[Out.below,SV.below]) (zb4 (by omega) _ _ _ _ _ _ _ _) ⟨Fz.r F1,rfl,zar zal (zao _ _ _ _ _),zar zad (zao _ _ _ _ _),tv⟩
 ·subst e;have hc:=h1 rfl;refine ct_of hΘ Tryz.func88 rfl (by decide) _ _ rfl rfl rfl ?_;refine useFo k rfl (zaa _) rfl ?_;rintro _ F1 h ⟨V,rfl,a⟩;have f:=a;obtain⟨G,B,E,D,A,I,rfl,q,u,x,y⟩:=a;refine brd (by decide) ?_;refine useFo (aa F1 _ f) rfl (zaa _) rfl ?_;rintro _ F2 U rfl;refine bre (by decide) ?_;refine use (hc F2) [(1,1),(2,2),(3,3)] rfl ⟨rfl,rfl,tv⟩ rfl (zb4 (by omega) _ _ _ _ _ _ _ _) (by simp[SV.below,SA.below]) ⟨rfl,zar zal (zao _ _ _ _ _),zar zad (zao _ _ _ _ _),tv⟩ ?_;rintro ag F3 x0 n0 l3 ⟨rfl,rfl,rfl⟩;exact clean [] (.ret (.tup [])) F3 (hpL n o i j M J T S) 4 ⟨Fz.t h (Fz.t U l3),rfl,rfl,rfl⟩ (zah _) rfl rfl (by simp[Out.below,SV.below]) (zb4 (by omega) _ _ _ _ _ _ _ _) ⟨Fz.r F3,rfl,zc9 zal,zc9 zad,tv⟩
 ·have e0:=e.1;have W:=e.2.2;have ti:¬(t.length:Int)=0:=by omega
  have hc:=h2 e.2.1 W;refine ct_of hΘ Tryz.func88 rfl (by decide) _ _ rfl rfl rfl ?_;refine useFo k rfl (zaa _) rfl ?_;rintro _ F1 h ⟨V,rfl,a⟩;have f:=a;obtain⟨G,B,E,D,A,I,rfl,q,u,x,y⟩:=a;refine brj ti ?_;refine useFo (aa F1 _ f) rfl (zaa _) rfl ?_;rintro _ F2 U rfl;refine brj W ?_;refine useFo (af F2 (Fz.t h U)) rfl (zaa _) rfl ?_;rintro _ F3 l3 rfl;have ah:=f.mono (Fz.t U l3);have ha:=X F3 (Fz.t h (Fz.t U l3)) _ ah;refine useFo ha rfl (zaa _) rfl ?_;rintro _ F4 l4 rfl;refine use (hc F4) [(1,1),(2,2),(3,3),(4,6)] rfl ⟨rfl,rfl,tv⟩ rfl ⟨za6 (by omega) _ _ _ _ _ _ _ _,zan zal _ _ _ _ _ _,zan zad _ _ _ _ _ _,zbl _ _,tv⟩ (by simp[SV.below,SA.below]) ⟨rfl,zar zal (zao _ _ _ _ _),zar zad (zao _ _ _ _ _),rfl,tv⟩ ?_;rintro ag F5 x0 n0 l5 ⟨rfl,rfl,rfl⟩;exact clean [] (.ret (.tup [])) F5 (hpL n o i j M J T S) 4 ⟨Fz.t h (Fz.t U (Fz.t l3 (Fz.t l4 l5))),rfl,rfl,rfl⟩ (zah _) rfl rfl (by simp[Out.below,SV.below]) (zb4 (by omega) _ _ _ _ _ _ _ _) ⟨Fz.r F5,rfl,zc9 zal,zc9 zad,tv⟩
