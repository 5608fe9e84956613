import Derived.Test.YtfnkamphhpldcaaGreatDoorK40
set_option maxHeartbeats 64000000
namespace Go.Proofs.YtfnkamphhpldcaaGreatDoor
open Go Sx Tryz
set_option maxRecDepth 100000
abbrev hpR(c d:Bool)(a b:Nat)(L:List DLn)(K:List Cel)(w:Int)(s bs:List UInt8)(p:Int):List (Nat×Ent):=[(1,docL c d L.length a K.length b w s),(2,rwE c 148 2 encN a L),(3,rwE d 151 6 encK b K),(4,mrd bs p)]
abbrev finR(c d:Bool)(a b:Nat)(L:List DLn)(K:List Cel)(w:Int)(s:List UInt8):Out->Fz->List (Nat×Ent)->Nat->Prop:=fun o _ e n0=>n0=5/\o=.ret (.tup [])/\e=[(1,docL c d L.length a K.length b w s),(2,rwE c 148 2 encN a L),(3,rwE d 151 6 encK b K),(4,.gone)]
theorem gI{n:Nat}(h:3 < n){l e:Nat}(c d:Bool)(a b:Nat)(L:List DLn)(K:List Cel)(w:Int)(s:List UInt8):bH n [(1,docL c d l a e b w s),(2,rwE c 148 2 encN a L),(3,rwE d 151 6 encK b K),(4,.gone)]:=
 ⟨cV h _ _ _ _ _ _ _ _,aS aG _ _ _ _ _ _,aS aC _ _ _ _ _ _,tv,tv⟩
variable {k:Nat}
theorem xt{α:Type}{A B L:List α}(h:A.length=B.length)(a:k < B.length)(c:L=mxl A B k)(e:A[k]'oo=B[k]):L=mxl A B (k+1):=by
 rw[c,<-rf h a,e];have h1:=re h a;obtain⟨d,b⟩:=qg.1 h1;rw[<-b,List.set_getElem_self]
theorem ydl{bs:List UInt8}{p a:Int}(h:a=p){μ:Mu}:SB.cells 228 [.str bs,.int .i64 p]=SB.ren μ (.cells 228 [.str bs,.int .i64 a]):=by subst h;rfl
theorem zY{α:Type}(l:List α)(k:Nat)(x y z:α):((l.set k x).set k y).set k z=l.set k z:=by simp
theorem BR(F:Fz)(m f:Bool)(c d:Nat)(L A:List DLn)(K:List Cel)(w:Int)(s bs:List UInt8)(q:Nat->Int)(z:Int)(hq:m=true->L=[])(hl:L.length<=1000)(a:A.length=L.length)
  (U:bs.length<=1000000000000000000)(hi:∀k,i64 (q k))(Q:getI bs 0=(z,q 0,0))(hr:∀k (h:k < L.length),getS bs (q k)=((A[k]'oo).1,q (k+1),0)/\(A[k]'oo).2=(L[k]'h).2):
  Ct prog 89 [.va (.ptr ⟨4,0,0,0,0⟩),.va (.ptr ⟨1,0,0,0,0⟩)] F (hpR m f c d L K w s bs 0) 5 (finR m f c d A K w s):=by
 have I:=fx F bs 0 z (q 0) U ⟨by decide,by decide⟩ Q;rcases L with _ | ⟨a0,ar⟩
 ·obtain rfl:A=[]:=ji a;refine ctS func89 ?_;refine useS I [(1,4)] ⟨dg bs _,tv⟩ ⟨rfl,tv⟩ ?_;rintro i F1 Q n0 W ⟨rfl,rfl,rfl,rfl⟩;conv=>whnf
  refine aH hΘ (X:=Unit) (fun x=>[(11,.va (.int .i64 0))]) (3::jr 12 17 [])
   (fun x=>[(0,.frz F),(1,docL m f 0 c K.length d w s),(2,rwE m 148 2 encN c []),(3,rwE f 151 6 encK d K)]) 5 (fun x=>0) ()
   (fun o p=>leI [] o p rfl ⟨tv,cV oo _ _ _ _ _ _ _ _,aS aG _ _ _ _ _ _,aS aC _ _ _ _ _ _,tv⟩ ⟨rfl,tv⟩ ⟨Fz.r F,rfl,aJ aG (aO _ _ _ _ _),aJ aC (aO _ _ _ _ _),tv⟩) ?_
  rintro⟨⟩ o p;refine brd dd ?_;exact clean [] (.ret (.tup [])) F [(1,docL m f 0 c K.length d w s),(2,rwE m 148 2 encN c []),(3,rwE f 151 6 encK d K),(4,.gone)] 5 ⟨Fz.r F,rfl,rfl,rfl⟩ (aP _) rfl rfl (by simp[Out.below,SV.below]) (gI (n:=5) oo _ _ _ _ _ _ _ _) ⟨Fz.r F,rfl,aJ aG (aO _ _ _ _ _),aJ aC (aO _ _ _ _ _),tv⟩
 ·obtain rfl:=go hq;refine ctS func89 ?_;refine useS I [(1,4)] ⟨dg bs _,tv⟩ ⟨rfl,tv⟩ ?_;rintro i F1 Q n0 W ⟨rfl,rfl,rfl,rfl⟩;conv=>whnf
  refine aH hΘ (X:={ y:Nat×DLn×List DLn // y.1<=ar.length+1/\y.2.1::y.2.2=mxl A (a0::ar) y.1 }) (fun y=>[(11,.va (.int .i64 y.1.1))]) (3::jr 12 17 [])
   (fun y=>[(0,.frz F),(1,docL false f (ar.length+1) c K.length d w s),(2,rwE false 148 2 encN c (y.1.2.1::y.1.2.2)),(3,rwE f 151 6 encK d K),(4,mrd bs (q y.1.1))]) 5 (fun y=>ar.length+1 - y.1.1) ⟨(0,a0,ar),jx _,(gS _ _).symm⟩
   (fun o p=>leI [] o p rfl ⟨tv,cV oo _ _ _ _ _ _ _ _,aS aG _ _ _ _ _ _,aS aC _ _ _ _ _ _,dg bs _,tv⟩ ⟨rfl,tv⟩ ⟨Fz.r F,rfl,aJ aG (aO _ _ _ _ _),aJ aC (aO _ _ _ _ _),rfl,tv⟩) ?_
  rintro⟨⟨k,T,Y⟩,V,b⟩ o p;replace V:k<=ar.length+1:=V;replace b:T::Y=mxl A (a0::ar) k:=b;by_cases g:k < ar.length+1
  ·have u:(k:Int) < ((ar.length+1:Nat):Int):=by omega
   have B:ar.length+1 - (k+1) < ar.length+1 - k:=by omega
   have E:k < 4611686018427387904:=by have:ar.length+1<=1000:=hl;omega
   have R:=ic (e:=encN) a g b;have J:=fun x=>gR (e:=encN) (x:=x) a g b
   have M:=hr k g;have h2:=gQ a (k+1);obtain⟨Z,r2,G⟩:=h2;rw[<-G]at J;have j:=qS F bs (q k) (q (k+1)) _ U (hi k) M.1
   have S:[SA.str (A[k]'(by rw[a];exact g)).1,.int .i64 ((a0::ar)[k]'g).2]=encN (A[k]'(by rw[a];exact g)):=by
    rw[<-M.2];rfl
   have O:=fun x=>po (e:=encN) (y:=x) a g b
   refine bri u ⟨rfl,⟨jz k,u⟩,rfl,_,R,?_⟩;refine dwS (lk [0,1,2,3] (.alt 4 (.look 5 (.look 6 (.alt 7 .done .nil))) .nil)) [1] ?_;refine⟨rfl,?_⟩;refine useS j [(1,4)] ⟨dg bs _,tv⟩ ⟨rfl,tv⟩ ?_;rintro i F1 Q n0 W ⟨rfl,rfl,rfl,rfl⟩;refine⟨Fz.r F,rfl,rfl,⟨jz k,u⟩,rfl,_,O _,Fz.r F,rfl,?_⟩
   exact⟨⟨(k+1,Z,r2),g,G⟩,B,leR [] o p rfl ⟨tv,cV oo _ _ _ _ _ _ _ _,aS aG _ _ _ _ _ _,aS aC _ _ _ _ _ _,dg bs _,tv⟩ ⟨cnt E,tv⟩
    ⟨Fz.r F,rfl,aJ aG (rw_op rfl ((o4 _ _ _ _).trans (J _ S))),aJ aC (aO _ _ _ _ _),rfl,tv⟩⟩
  ·have u:¬(k:Int) < ((ar.length+1:Nat):Int):=by omega
   have D:T::Y=A:=by
    rw[b,show k=(a0::ar).length by show k=ar.length+1;omega,gX a]
   have l:docB false f (ar.length+1) c K.length d w s=(docB false f A.length c K.length d w s).ren (sig []):=by rw[a];rfl
   refine brj u ?_
   exact clean [] (.ret (.tup [])) F [(1,docL false f A.length c K.length d w s),(2,rwE false 148 2 encN c A),(3,rwE f 151 6 encK d K),(4,.gone)] 5 ⟨Fz.r F,rfl,rfl,rfl⟩ (aP _) rfl rfl (by simp[Out.below,SV.below]) (gI (n:=5) oo _ _ _ _ _ _ _ _)
    ⟨Fz.r F,l,aJ aG (rw_of D),aJ aC (aO _ _ _ _ _),tv⟩
theorem BT(F:Fz)(m f:Bool)(c d:Nat)(L A:List DLn)(K:List Cel)(w:Int)(s bs:List UInt8)(q:Nat->Int)(z:Int)(hq:m=true->L=[])(hl:L.length<=1000)(a:A.length=L.length)
  (U:bs.length<=1000000000000000000)(hi:∀k,i64 (q k))(Q:getI bs 0=(z,q 0,0))(hr:∀k (h:k < L.length),getI bs (q k)=((A[k]'oo).2,q (k+1),0)/\(A[k]'oo).1=(L[k]'h).1):
  Ct prog 92 [.va (.ptr ⟨4,0,0,0,0⟩),.va (.ptr ⟨1,0,0,0,0⟩)] F (hpR m f c d L K w s bs 0) 5 (finR m f c d A K w s):=by
 have I:=fx F bs 0 z (q 0) U ⟨by decide,by decide⟩ Q;rcases L with _ | ⟨a0,ar⟩
 ·obtain rfl:A=[]:=ji a;refine ctS func92 ?_;refine useS I [(1,4)] ⟨dg bs _,tv⟩ ⟨rfl,tv⟩ ?_;rintro i F1 Q n0 W ⟨rfl,rfl,rfl,rfl⟩;conv=>whnf
  refine aH hΘ (X:=Unit) (fun x=>[(11,.va (.int .i64 0))]) (3::jr 12 17 [])
   (fun x=>[(0,.frz F),(1,docL m f 0 c K.length d w s),(2,rwE m 148 2 encN c []),(3,rwE f 151 6 encK d K)]) 5 (fun x=>0) ()
   (fun o p=>leI [] o p rfl ⟨tv,cV oo _ _ _ _ _ _ _ _,aS aG _ _ _ _ _ _,aS aC _ _ _ _ _ _,tv⟩ ⟨rfl,tv⟩ ⟨Fz.r F,rfl,aJ aG (aO _ _ _ _ _),aJ aC (aO _ _ _ _ _),tv⟩) ?_
  rintro⟨⟩ o p;refine brd dd ?_;exact clean [] (.ret (.tup [])) F [(1,docL m f 0 c K.length d w s),(2,rwE m 148 2 encN c []),(3,rwE f 151 6 encK d K),(4,.gone)] 5 ⟨Fz.r F,rfl,rfl,rfl⟩ (aP _) rfl rfl (by simp[Out.below,SV.below]) (gI (n:=5) oo _ _ _ _ _ _ _ _) ⟨Fz.r F,rfl,aJ aG (aO _ _ _ _ _),aJ aC (aO _ _ _ _ _),tv⟩
 ·obtain rfl:=go hq;refine ctS func92 ?_;refine useS I [(1,4)] ⟨dg bs _,tv⟩ ⟨rfl,tv⟩ ?_;rintro i F1 Q n0 W ⟨rfl,rfl,rfl,rfl⟩;conv=>whnf
  refine aH hΘ (X:={ y:Nat×DLn×List DLn // y.1<=ar.length+1/\y.2.1::y.2.2=mxl A (a0::ar) y.1 }) (fun y=>[(11,.va (.int .i64 y.1.1))]) (3::jr 12 17 [])
   (fun y=>[(0,.frz F),(1,docL false f (ar.length+1) c K.length d w s),(2,rwE false 148 2 encN c (y.1.2.1::y.1.2.2)),(3,rwE f 151 6 encK d K),(4,mrd bs (q y.1.1))]) 5 (fun y=>ar.length+1 - y.1.1) ⟨(0,a0,ar),jx _,(gS _ _).symm⟩
   (fun o p=>leI [] o p rfl ⟨tv,cV oo _ _ _ _ _ _ _ _,aS aG _ _ _ _ _ _,aS aC _ _ _ _ _ _,dg bs _,tv⟩ ⟨rfl,tv⟩ ⟨Fz.r F,rfl,aJ aG (aO _ _ _ _ _),aJ aC (aO _ _ _ _ _),rfl,tv⟩) ?_
  rintro⟨⟨k,T,Y⟩,V,b⟩ o p;replace V:k<=ar.length+1:=V;replace b:T::Y=mxl A (a0::ar) k:=b;by_cases g:k < ar.length+1
  ·have u:(k:Int) < ((ar.length+1:Nat):Int):=by omega
   have B:ar.length+1 - (k+1) < ar.length+1 - k:=by omega
   have E:k < 4611686018427387904:=by have:ar.length+1<=1000:=hl;omega
   have R:=ic (e:=encN) a g b;have J:=fun x=>gR (e:=encN) (x:=x) a g b
   have M:=hr k g;have h2:=gQ a (k+1);obtain⟨Z,r2,G⟩:=h2;rw[<-G]at J;have j:=fx F bs (q k) _ (q (k+1)) U (hi k) M.1
   have S:[SA.str ((a0::ar)[k]'g).1,.int .i64 (A[k]'(by rw[a];exact g)).2]=encN (A[k]'(by rw[a];exact g)):=by
    rw[<-M.2];rfl
   have O:=fun x=>po (e:=encN) (y:=x) a g b
   refine bri u ⟨rfl,⟨jz k,u⟩,rfl,_,R,?_⟩;refine dwS (lk [0,1,2,3] (.alt 4 (.look 5 (.look 6 (.alt 7 .done .nil))) .nil)) [1] ?_;refine⟨rfl,?_⟩;refine useS j [(1,4)] ⟨dg bs _,tv⟩ ⟨rfl,tv⟩ ?_;rintro i F1 Q n0 W ⟨rfl,rfl,rfl,rfl⟩;refine⟨Fz.r F,rfl,rfl,⟨jz k,u⟩,rfl,_,O _,Fz.r F,rfl,?_⟩
   exact⟨⟨(k+1,Z,r2),g,G⟩,B,leR [] o p rfl ⟨tv,cV oo _ _ _ _ _ _ _ _,aS aG _ _ _ _ _ _,aS aC _ _ _ _ _ _,dg bs _,tv⟩ ⟨cnt E,tv⟩
    ⟨Fz.r F,rfl,aJ aG (rw_op rfl ((o4 _ _ _ _).trans (J _ S))),aJ aC (aO _ _ _ _ _),rfl,tv⟩⟩
  ·have u:¬(k:Int) < ((ar.length+1:Nat):Int):=by omega
   have D:T::Y=A:=by
    rw[b,show k=(a0::ar).length by show k=ar.length+1;omega,gX a]
   have l:docB false f (ar.length+1) c K.length d w s=(docB false f A.length c K.length d w s).ren (sig []):=by rw[a];rfl
   refine brj u ?_
   exact clean [] (.ret (.tup [])) F [(1,docL false f A.length c K.length d w s),(2,rwE false 148 2 encN c A),(3,rwE f 151 6 encK d K),(4,.gone)] 5 ⟨Fz.r F,rfl,rfl,rfl⟩ (aP _) rfl rfl (by simp[Out.below,SV.below]) (gI (n:=5) oo _ _ _ _ _ _ _ _)
    ⟨Fz.r F,l,aJ aG (rw_of D),aJ aC (aO _ _ _ _ _),tv⟩
theorem BU(F:Fz)(f D:Bool)(c d:Nat)(L:List DLn)(K A:List Cel)(w:Int)(s:List UInt8)(Z:D=true->K=[])(Y:K.length<=1000)(a:A.length=K.length)
  (W:∀k (h:k < K.length),A[k]'oo=if(K[k]'h).sum=true then K[k]'h else{ K[k]'h with value:=0 }):
  Ct prog 93 [.va .nilptr,.va (.ptr ⟨1,0,0,0,0⟩)] F (hpL f D c d L K w s) 4 (finL f D c d L A w s):=by
 rcases K with _ | ⟨a0,ar⟩
 ·obtain rfl:A=[]:=ji a;refine ctS func93 ?_;conv=>whnf
  refine aH hΘ (X:=Unit) (fun x=>[(12,.va (.int .i64 0))]) (3::4::jr 13 33 [])
   (fun x=>[(0,.frz F),(1,docL f D L.length c 0 d w s),(2,rwE f 148 2 encN c L),(3,rwE D 151 6 encK d [])]) 4 (fun x=>0) ()
   (fun n o=>leI [] n o rfl ⟨tv,cV oo _ _ _ _ _ _ _ _,aS aG _ _ _ _ _ _,aS aC _ _ _ _ _ _,tv⟩ ⟨rfl,tv⟩ ⟨Fz.r F,rfl,aJ aG (aO _ _ _ _ _),aJ aC (aO _ _ _ _ _),tv⟩) ?_
  rintro⟨⟩ n o;refine brd dd ?_;exact clean [] (.ret (.tup [])) F (hpL f D c d L [] w s) 4 ⟨Fz.r F,rfl,rfl,rfl⟩ (aP _) rfl rfl (by simp[Out.below,SV.below]) (dD oo _ _ _ _ _ _ _ _) ⟨Fz.r F,rfl,aJ aG (aO _ _ _ _ _),aJ aC (aO _ _ _ _ _),tv⟩
 ·obtain rfl:=go Z;refine ctS func93 ?_;conv=>whnf
  refine aH hΘ (X:={ y:Nat×Cel×List Cel // y.1<=ar.length+1/\y.2.1::y.2.2=mxl A (a0::ar) y.1 }) (fun y=>[(12,.va (.int .i64 y.1.1))]) (3::4::jr 13 33 [])
   (fun y=>[(0,.frz F),(1,docL f false L.length c (ar.length+1) d w s),(2,rwE f 148 2 encN c L),(3,rwE false 151 6 encK d (y.1.2.1::y.1.2.2))]) 4 (fun y=>ar.length+1 - y.1.1) ⟨(0,a0,ar),jx _,(gS _ _).symm⟩
   (fun n o=>leI [] n o rfl ⟨tv,cV oo _ _ _ _ _ _ _ _,aS aG _ _ _ _ _ _,aS aC _ _ _ _ _ _,tv⟩ ⟨rfl,tv⟩ ⟨Fz.r F,rfl,aJ aG (aO _ _ _ _ _),aJ aC (aO _ _ _ _ _),tv⟩) ?_
  rintro⟨⟨k,Q,T⟩,S,b⟩ n o;replace S:k<=ar.length+1:=S;replace b:Q::T=mxl A (a0::ar) k:=b;by_cases g:k < ar.length+1
  ·have B:(k:Int) < ((ar.length+1:Nat):Int):=by omega
   have l:ar.length+1 - (k+1) < ar.length+1 - k:=by omega
   have m:k < 4611686018427387904:=by have:ar.length+1<=1000:=Y;omega
   have p:=ic (e:=encK) a g b;have G:=fun x=>gR (e:=encK) (x:=x) a g b
   have i:=W k g;have V:=gQ a (k+1);obtain⟨R,U,j⟩:=V;rw[<-j]at G;have J:=xt a g b;rw[<-j]at J
   have M:((a0::ar)[k]'g).sum=true\/((a0::ar)[k]'g).sum=false:=by
    cases((a0::ar)[k]'g).sum
    ·exact .inr rfl
    ·exact .inl rfl
   refine Or.elim M (fun I=>?_) (fun I=>?_)
   ·rw[if_pos I]at i;have u:=J i;refine bri B ⟨rfl,⟨jz k,B⟩,rfl,_,p,?_⟩;refine br (fun _=>?_) (fun h=>absurd (I.symm.trans h) ss)
    exact⟨⟨(k+1,R,U),g,j⟩,l,leR [] n o rfl ⟨tv,cV oo _ _ _ _ _ _ _ _,aS aG _ _ _ _ _ _,aS aC _ _ _ _ _ _,tv⟩ ⟨cnt m,tv⟩
     ⟨Fz.r F,rfl,aJ aG (aO _ _ _ _ _),aJ aC (rw_of u),tv⟩⟩
   ·rw[if_neg (by rw[I];decide)]at i;have O:[SA.int .i64 ((a0::ar)[k]'g).row,.int .i64 ((a0::ar)[k]'g).col,.bool ((a0::ar)[k]'g).sum,.int .i64 0,.int .i64 ((a0::ar)[k]'g).top,.int .i64 ((a0::ar)[k]'g).left]=encK (A[k]'(by rw[a];exact g)):=by rw[i];rfl
    refine bri B ⟨rfl,⟨jz k,B⟩,rfl,_,p,?_⟩;refine br (fun h=>absurd (I.symm.trans h) ss) (fun _=>?_);refine⟨rfl,_,p,?_⟩
    exact⟨⟨(k+1,R,U),g,j⟩,l,leR [] n o rfl ⟨tv,cV oo _ _ _ _ _ _ _ _,aS aG _ _ _ _ _ _,aS aC _ _ _ _ _ _,tv⟩ ⟨cnt m,tv⟩
     ⟨Fz.r F,rfl,aJ aG (aO _ _ _ _ _),aJ aC (rw_op rfl (G _ O)),tv⟩⟩
  ·have B:¬(k:Int) < ((ar.length+1:Nat):Int):=by omega
   have E:Q::T=A:=by
    rw[b,show k=(a0::ar).length by show k=ar.length+1;omega,gX a]
   have q:docB f false L.length c (ar.length+1) d w s=(docB f false L.length c A.length d w s).ren (sig []):=by rw[a];rfl
   refine brj B ?_
   exact clean [] (.ret (.tup [])) F (hpL f false c d L A w s) 4 ⟨Fz.r F,rfl,rfl,rfl⟩ (aP _) rfl rfl (by simp[Out.below,SV.below]) (dD oo _ _ _ _ _ _ _ _)
    ⟨Fz.r F,q,aJ aG (aO _ _ _ _ _),aJ aC (rw_of E),tv⟩
theorem BV(F:Fz)(l J:Bool)(i j:Nat)(L:List DLn)(K A:List Cel)(w:Int)(s bs:List UInt8)(q:Nat->Int)(z:Int)(hq:J=true->K=[])(hl:K.length<=1000)(c:A.length=K.length)
  (V:bs.length<=1000000000000000000)(hi:∀k,i64 (q k))(O:getI bs 0=(z,q 0,0))
  (hr:∀k (h:k < K.length),((K[k]'h).sum=true/\q (k+1)=q k/\A[k]'oo=K[k]'h)\/
   ((K[k]'h).sum=false/\∃a b v,i64 a/\i64 b/\getI bs (q k)=((K[k]'h).row,a,0)/\getI bs a=((K[k]'h).col,b,0)/\getI bs b=(v,q (k+1),0)/\A[k]'oo={ K[k]'h with value:=v })):
  Ct prog 93 [.va (.ptr ⟨4,0,0,0,0⟩),.va (.ptr ⟨1,0,0,0,0⟩)] F (hpR l J i j L K w s bs 0) 5 (finR l J i j L A w s):=by
 have S:=fx F bs 0 z (q 0) V ⟨by decide,by decide⟩ O;rcases K with _ | ⟨a0,ar⟩
 ·obtain rfl:A=[]:=ji c;refine ctS func93 ?_;refine useS S [(1,4)] ⟨dg bs _,tv⟩ ⟨rfl,tv⟩ ?_;rintro f F1 O n0 W ⟨rfl,rfl,rfl,rfl⟩;conv=>whnf
  refine aH hΘ (X:=Unit) (fun x=>[(12,.va (.int .i64 0))]) (3::4::jr 13 33 [])
   (fun x=>[(0,.frz F),(1,docL l J L.length i 0 j w s),(2,rwE l 148 2 encN i L),(3,rwE J 151 6 encK j [])]) 5 (fun x=>0) ()
   (fun B D=>leI [] B D rfl ⟨tv,cV oo _ _ _ _ _ _ _ _,aS aG _ _ _ _ _ _,aS aC _ _ _ _ _ _,tv⟩ ⟨rfl,tv⟩ ⟨Fz.r F,rfl,aJ aG (aO _ _ _ _ _),aJ aC (aO _ _ _ _ _),tv⟩) ?_
  rintro⟨⟩ B D;refine brd dd ?_;exact clean [] (.ret (.tup [])) F [(1,docL l J L.length i 0 j w s),(2,rwE l 148 2 encN i L),(3,rwE J 151 6 encK j []),(4,.gone)] 5 ⟨Fz.r F,rfl,rfl,rfl⟩ (aP _) rfl rfl (by simp[Out.below,SV.below]) (gI (n:=5) oo _ _ _ _ _ _ _ _) ⟨Fz.r F,rfl,aJ aG (aO _ _ _ _ _),aJ aC (aO _ _ _ _ _),tv⟩
 ·obtain rfl:=go hq;refine ctS func93 ?_;refine useS S [(1,4)] ⟨dg bs _,tv⟩ ⟨rfl,tv⟩ ?_;rintro f F1 O n0 W ⟨rfl,rfl,rfl,rfl⟩;conv=>whnf
  refine aH hΘ (X:={ y:Nat×Cel×List Cel // y.1<=ar.length+1/\y.2.1::y.2.2=mxl A (a0::ar) y.1 }) (fun y=>[(12,.va (.int .i64 y.1.1))]) (3::4::jr 13 33 [])
   (fun y=>[(0,.frz F),(1,docL l false L.length i (ar.length+1) j w s),(2,rwE l 148 2 encN i L),(3,rwE false 151 6 encK j (y.1.2.1::y.1.2.2)),(4,mrd bs (q y.1.1))]) 5 (fun y=>ar.length+1 - y.1.1) ⟨(0,a0,ar),jx _,(gS _ _).symm⟩
   (fun B D=>leI [] B D rfl ⟨tv,cV oo _ _ _ _ _ _ _ _,aS aG _ _ _ _ _ _,aS aC _ _ _ _ _ _,dg bs _,tv⟩ ⟨rfl,tv⟩ ⟨Fz.r F,rfl,aJ aG (aO _ _ _ _ _),aJ aC (aO _ _ _ _ _),rfl,tv⟩) ?_
  rintro⟨⟨k,a1,r1⟩,hk,d⟩ B D;replace hk:k<=ar.length+1:=hk;replace d:a1::r1=mxl A (a0::ar) k:=d;by_cases g:k < ar.length+1
  ·have M:(k:Int) < ((ar.length+1:Nat):Int):=by omega
   have o:ar.length+1 - (k+1) < ar.length+1 - k:=by omega
   have p:k < 4611686018427387904:=by have:ar.length+1<=1000:=hl;omega
   have E:=ic (e:=encK) c g d;have T:=fun x=>gR (e:=encK) (x:=x) c g d
   have h2:=gQ c (k+1);obtain⟨a2,r2,m⟩:=h2;rw[<-m]at T;have U:=xt c g d;rw[<-m]at U;have u:=fun x=>po (e:=encK) (y:=x) c g d
   refine Or.elim (hr k g) (fun Q=>?_) (fun Q=>?_)
   ·have I:=U Q.2.2;have ab:=Q.2.1;refine bri M ⟨rfl,⟨jz k,M⟩,rfl,_,E,?_⟩;refine br (fun _=>?_) (fun h=>absurd (Q.1.symm.trans h) ss)
    exact⟨⟨(k+1,a2,r2),g,m⟩,o,leR [] B D rfl ⟨tv,cV oo _ _ _ _ _ _ _ _,aS aG _ _ _ _ _ _,aS aC _ _ _ _ _ _,dg bs _,tv⟩ ⟨cnt p,tv⟩
     ⟨Fz.r F,rfl,aJ aG (aO _ _ _ _ _),aJ aC (rw_of I),ydl ab,tv⟩⟩
   ·have ac:=Q.1;have ad:=Q.2;obtain⟨a,b,v,ia,ib,ga,gb,gv,aa⟩:=ad;have c0:=fx F bs (q k) _ a V (hi k) ga;have Y:=fx F bs a _ b V ia gb;have Z:=fx F bs b _ (q (k+1)) V ib gv;have ae:[SA.int .i64 ((a0::ar)[k]'g).row,.int .i64 ((a0::ar)[k]'g).col,.bool ((a0::ar)[k]'g).sum,.int .i64 v,.int .i64 ((a0::ar)[k]'g).top,.int .i64 ((a0::ar)[k]'g).left]=encK (A[k]'(by rw[c];exact g)):=by rw[aa];rfl
    refine bri M ⟨rfl,⟨jz k,M⟩,rfl,_,E,?_⟩;refine br (fun h=>absurd (ac.symm.trans h) ss) (fun _=>?_);refine useS c0 [(1,4)] ⟨dg bs _,tv⟩ ⟨rfl,tv⟩ ?_;rintro f F1 O n0 W ⟨rfl,rfl,rfl,rfl⟩;refine useS Y [(1,4)] ⟨dg bs _,tv⟩ ⟨rfl,tv⟩ ?_;rintro f F1 O n0 W ⟨rfl,rfl,rfl,rfl⟩;refine useS Z [(1,4)] ⟨dg bs _,tv⟩ ⟨rfl,tv⟩ ?_;rintro f F1 O n0 W ⟨rfl,rfl,rfl,rfl⟩;refine⟨rfl,_,E,rfl,_,u _,rfl,_,(congrArg (·[0+(k:Int).toNat]?) (o4 _ _ _ _)).trans (u _),?_⟩
    exact⟨⟨(k+1,a2,r2),g,m⟩,o,leR [] B D rfl ⟨tv,cV oo _ _ _ _ _ _ _ _,aS aG _ _ _ _ _ _,aS aC _ _ _ _ _ _,dg bs _,tv⟩ ⟨cnt p,tv⟩
     ⟨Fz.r F,rfl,aJ aG (aO _ _ _ _ _),aJ aC (rw_op rfl ((zY _ _ _ _ _).trans (T _ ae))),rfl,tv⟩⟩
  ·have M:¬(k:Int) < ((ar.length+1:Nat):Int):=by omega
   have R:a1::r1=A:=by
    rw[d,show k=(a0::ar).length by show k=ar.length+1;omega,gX c]
   have G:docB l false L.length i (ar.length+1) j w s=(docB l false L.length i A.length j w s).ren (sig []):=by rw[c];rfl
   refine brj M ?_
   exact clean [] (.ret (.tup [])) F [(1,docL l false L.length i A.length j w s),(2,rwE l 148 2 encN i L),(3,rwE false 151 6 encK j A),(4,.gone)] 5 ⟨Fz.r F,rfl,rfl,rfl⟩ (aP _) rfl rfl (by simp[Out.below,SV.below]) (gI (n:=5) oo _ _ _ _ _ _ _ _)
    ⟨Fz.r F,G,aJ aG (aO _ _ _ _ _),aJ aC (rw_of R),tv⟩
theorem BW(F:Fz)(c d:Bool)(a b:Nat)(L:List DLn)(K:List Cel)(w:Int)(s:List UInt8):
  Ct prog 96 [.va .nilptr,.va (.ptr ⟨1,0,0,0,0⟩)] F (hpL c d a b L K w s) 4 (finL c d a b L K 0 []):=by
 refine ctS func96 ?_;exact clean [] (.ret (.tup [])) F (hpL c d a b L K 0 []) 4 ⟨Fz.r F,rfl,rfl,rfl⟩ (aP _) rfl rfl (by simp[Out.below,SV.below]) (dD oo _ _ _ _ _ _ _ _) ⟨Fz.r F,rfl,aJ aG (aO _ _ _ _ _),aJ aC (aO _ _ _ _ _),tv⟩
theorem BY(F:Fz)(g h:Bool)(e f:Nat)(L:List DLn)(K:List Cel)(w m z:Int)(s i bs:List UInt8)(a b c:Int)(l:bs.length<=1000000000000000000)(A:i64 a)(ib:i64 b)(u:getI bs 0=(m,a,0))(x:getI bs a=(z,b,0))(y:getS bs b=(i,c,0)):
  Ct prog 96 [.va (.ptr ⟨4,0,0,0,0⟩),.va (.ptr ⟨1,0,0,0,0⟩)] F (hpR g h e f L K w s bs 0) 5 (finR g h e f L K m i):=by
 have q:=fx F bs 0 _ a l ⟨by decide,by decide⟩ u;have j:=fx F bs a _ b l A x;have k:=qS F bs b c i l ib y;refine ctS func96 ?_;refine useS q [(1,4)] ⟨dg bs _,tv⟩ ⟨rfl,tv⟩ ?_;rintro d F1 o n0 p ⟨rfl,rfl,rfl,rfl⟩;refine useS j [(1,4)] ⟨dg bs _,tv⟩ ⟨rfl,tv⟩ ?_;rintro d F1 o n0 p ⟨rfl,rfl,rfl,rfl⟩;refine useS k [(1,4)] ⟨dg bs _,tv⟩ ⟨rfl,tv⟩ ?_;rintro d F1 o n0 p ⟨rfl,rfl,rfl,rfl⟩;exact clean [] (.ret (.tup [])) F [(1,docL g h L.length e K.length f m i),(2,rwE g 148 2 encN e L),(3,rwE h 151 6 encK f K),(4,.gone)] 5 ⟨Fz.r F,rfl,rfl,rfl⟩ (aP _) rfl rfl (by simp[Out.below,SV.below]) (gI (n:=5) oo _ _ _ _ _ _ _ _) ⟨Fz.r F,rfl,aJ aG (aO _ _ _ _ _),aJ aC (aO _ _ _ _ _),tv⟩
def posn(a:List UInt8)(C:List (List UInt8))(k:Nat):List UInt8:=a++(C.take k).flatten
variable {C:List (List UInt8)}{a:List UInt8}
theorem lI(h:k < C.length):posn a C (k+1)=posn a C k++C[k]:=by
 unfold posn;rw[qf h,yu,qj];simp
theorem lu(a:List UInt8)(h:k < C.length):a++C.flatten=posn a C k++(C[k]++(C.drop (k+1)).flatten):=by
 unfold posn
 conv=>lhs;rw[<-yl k C,jj h,yu,jm]
 rw[qj]
theorem ybh(a:List UInt8)(C:List (List UInt8))(k:Nat):(posn a C k).length<=(a++C.flatten).length:=by
 rcases qcf k C.length with h | h
 ·rw[lu a h,qb];omega
 ·unfold posn;rw[ql h];exact qi _
def posI(a:List UInt8)(C:List (List UInt8))(k:Nat):Int:=((posn a C k).length:Nat)
theorem pq(b:(a++C.flatten).length<=1000000000000000000)(k:Nat):i64 (posI a C k):=by
 have:=ybh a C k;unfold posI i64;omega
theorem nums1{n:Int}(h:okI n):aA [n]=putI n:=by simp[aA,eb h]
theorem o9{n:Int}(h:okI n)(C:List (List UInt8)):getI (aA [n]++C.flatten) 0=(n,posI (aA [n]) C 0,0):=by
 have h1:=dJ [] C.flatten h;have e:posI (aA [n]) C 0=((putI n).length:Nat):=by unfold posI posn;rw[nums1 h];simp
 rw[e,nums1 h];exact h1
theorem BN(h:k < C.length){t:List UInt8}(c:t.length<=65536)(b:C[k]=(putSR t).1):getS (a++C.flatten) (posI a C k)=(t,posI a C (k+1),0):=by
 rw[lu a h,b,posI,kq _ _ _ c,posI,lI h,b]
theorem BM(h:k < C.length){n:Int}(c:okI n)(b:C[k]=putI n):getI (a++C.flatten) (posI a C k)=(n,posI a C (k+1),0):=by
 rw[lu a h,b,posI,dJ _ _ c,posI,lI h,b]
theorem DM{c:List UInt8}(h:k < C.length){x y z:Int}(m:okI x)(n:okI y)(o:okI z)(i:C[k]=putI x++(putI y++putI z))(j:(c++C.flatten).length<=1000000000000000000):
  ∃a b:Int,i64 a/\i64 b/\getI (c++C.flatten) (posI c C k)=(x,a,0)/\getI (c++C.flatten) a=(y,b,0)/\getI (c++C.flatten) b=(z,posI c C (k+1),0):=by
 have e:=lu c h;have d:c++C.flatten=posn c C k++(putI x++(putI y++(putI z++(C.drop (k+1)).flatten))):=by rw[e,i];simp only[qj]
 have f:c++C.flatten=(posn c C k++putI x)++(putI y++(putI z++(C.drop (k+1)).flatten)):=by rw[d];simp only[qj]
 have g:c++C.flatten=(posn c C k++putI x++putI y)++(putI z++(C.drop (k+1)).flatten):=by rw[d];simp only[qj]
 have l:posn c C (k+1)=posn c C k++putI x++putI y++putI z:=by rw[lI h,i];simp only[qj]
 refine⟨((posn c C k++putI x).length:Nat),((posn c C k++putI x++putI y).length:Nat),?_,?_,?_,?_,?_⟩
 ·have:=congrArg List.length f;simp only[qb]at this j ⊢;unfold i64;omega
 ·have:=congrArg List.length g;simp only[qb]at this j ⊢;unfold i64;omega
 ·rw[posI,d];exact dJ _ _ m
 ·rw[f];exact dJ _ _ n
 ·rw[posI,l,g];exact dJ _ _ o
def fD(c:Cel):List UInt8:=if c.sum=true then []else aA [c.row,c.col,c.value]
theorem sX:∀l:List Cel,(l.map fD).flatten=((l.filter (keepQ false)).map fun c=>aA [c.row,c.col,c.value]).flatten
 |[]=>rfl
 |c::r=>by
  rw[qw,jm,sX r,List.filter_cons];by_cases h:c.sum=true
  ·have e:keepQ false c=false:=by unfold keepQ;rw[h];rfl
   rw[fD,if_pos h,e];rfl
  ·have h:c.sum=false:=by simpa using h
   have e:keepQ false c=true:=by unfold keepQ;rw[h];rfl
   rw[fD,if_neg (by rw[h];decide),e];rfl
theorem fa{n:Int}(h:-1000000000000000<=n/\n<=1000000000000000):okI n:=by unfold okI;omega
theorem Ag{L:List DLn}(c:L.length<=1000)(b:∀l∈L,l.1.length<=65536)(a:(ptext L).length<=1000000000000000000):
  ∃q:Nat->Int,(∀k,i64 (q k))/\getI (ptext L) 0=((L.length:Int),q 0,0)/\∀k (h:k < L.length),getS (ptext L) (q k)=((L[k]'h).1,q (k+1),0):=by
 have e:ptext L=aA [(L.length:Int)]++(L.map fun x=>(putSR x.1).1).flatten:=rfl;rw[e]at a ⊢;refine⟨posI (aA [(L.length:Int)]) (L.map fun x=>(putSR x.1).1),pq a,o9 (fa oo) _,fun k h=>?_⟩;exact BN (by rw[qa];exact h) (b _ (qx h)) (by rw[yv])
theorem yT{L:List DLn}(m:L.length<=1000)(j:∀l∈L,okI l.2)(d:(pmot L).length<=1000000000000000000):
  ∃q:Nat->Int,(∀k,i64 (q k))/\getI (pmot L) 0=((L.length:Int),q 0,0)/\∀k (h:k < L.length),getI (pmot L) (q k)=((L[k]'h).2,q (k+1),0):=by
 obtain⟨a,f⟩:∃a,aA [(L.length:Int)]=a:=⟨_,rfl⟩
 obtain⟨C,b⟩:∃C,L.map (fun x=>aA [x.2])=C:=⟨_,rfl⟩
 have g:getI (a++C.flatten) 0=((L.length:Int),posI a C 0,0):=by
  rw[<-f];exact o9 (fa oo) C
 have e:pmot L=a++C.flatten:=by rw[<-f,<-b];rfl
 rw[e]at d ⊢;refine⟨posI a C,pq d,g,fun k h=>?_⟩;have h1:=j _ (qx h);have i:k < C.length:=by rw[<-b,qa];exact h
 have c:C[k]=putI (L[k]'h).2:=by
  subst b;rw[yv,nums1 h1]
 exact BM i h1 c
theorem Eh{K:List Cel}(n:K.length<=1000)(o:∀c∈K,okI c.row/\okI c.col/\okI c.value)(f:(dh false K).length<=1000000000000000000):
  ∃(q:Nat->Int) (z:Int),(∀k,i64 (q k))/\getI (dh false K) 0=(z,q 0,0)/\∀k (h:k < K.length),((K[k]'h).sum=true/\q (k+1)=q k)\/
   ((K[k]'h).sum=false/\∃a b,i64 a/\i64 b/\getI (dh false K) (q k)=((K[k]'h).row,a,0)/\getI (dh false K) a=((K[k]'h).col,b,0)/\getI (dh false K) b=((K[k]'h).value,q (k+1),0)):=by
 have p:(K.filter (keepQ false)).length<=1000:=q8 (qan _ _) n
 have e:dh false K=aA [((K.filter (keepQ false)).length:Int)]++(K.map fD).flatten:=by
  rw[sX];rfl
 rw[e]at f ⊢;refine⟨posI (aA [((K.filter (keepQ false)).length:Int)]) (K.map fD),_,pq f,o9 (fa oo) _,fun k h=>?_⟩;have g:k < (K.map fD).length:=by rw[qa];exact h
 by_cases d:(K[k]'h).sum=true
 ·refine .inl ⟨d,?_⟩;have m:(K.map fD)[k]=[]:=by rw[yv,fD,if_pos d]
  rw[posI,posI,lI g,m,qy]
 ·have d:(K[k]'h).sum=false:=by simpa using d
  obtain⟨i,j,l⟩:=o _ (qx h);refine .inr ⟨d,DM g i j l ?_ f⟩;rw[yv,fD,if_neg (by rw[d];decide)];simp only[aA,qw,yy,jm,qaj,eb i,eb j,eb l,qy]
theorem zM{w h:Int}{s:List UInt8}(f:okI w)(d:okI h)(k:s.length<=65536):
  ∃a b c:Int,i64 a/\i64 b/\getI (aA [w,h]++(putSR s).1) 0=(w,a,0)/\getI (aA [w,h]++(putSR s).1) a=(h,b,0)/\getS (aA [w,h]++(putSR s).1) b=(s,c,0):=by
 have l:=kg w f;have m:=kg h d
 have e:aA [w,h]++(putSR s).1=putI w++(putI h++((putSR s).1++[])):=by
  simp only[aA,qw,yy,jm,qaj,eb f,eb d,qy,qj]
 have i:=dJ [] (putI h++((putSR s).1++[])) f;have j:=dJ (putI w) ((putSR s).1++[]) d;have g:=kq (putI w++putI h) [] s k;rw[e];rw[qj (putI w)]at g;refine⟨((putI w).length:Nat),((putI w++putI h).length:Nat),_,?_,?_,i,j,g⟩
 ·unfold i64;omega
 ·rw[qb];unfold i64;omega
theorem lH(F:Fz)(hM:MLF F)(sk:SA)(m:Mig)(p:Int)(hp:1<=p/\p<=8)(g:FuncId)(a1 b1:SA)(d:Dc)(hk:KpsAt F sk m.keep)(Z:short m.keep)(aj:m.keep.length < 1000000)(hD:DocAt F a1 b1 d)(O:DcSmall d)(hd:docOk d=true)
  (n o:Bool)(i j:Nat)(L M:List DLn)(K J:List Cel)(w T:Int)(s S:List UInt8)
  (h0:aE p m.keep=[]->M=L/\J=K/\T=w/\S=s)
  (h1:aE p m.keep=[(6,0)]->∀F1,Ct prog g [.va .nilptr,.va (.ptr ⟨1,0,0,0,0⟩)] F1 (hpL n o i j L K w s) 4 (finL n o i j M J T S))
  (h2:aE p m.keep≠[]->aE p m.keep≠[(6,0)]->∀F1,Ct prog g [.va (.ptr ⟨4,0,0,0,0⟩),.va (.ptr ⟨1,0,0,0,0⟩)] F1 (hpR n o i j L K w s (dp p (aE p m.keep) (propB p d)).1 0) 5 (finR n o i j M J T S)):
  Ct prog 88 [.agg (migS m sk),.agg (docS a1 b1 d.w d.bits),.va (.int .i64 p),.va (.fn (.func g) [⟨1,0,0,0,0⟩])] F (hpL n o i j L K w s) 4 (finL n o i j M J T S):=by
 have k:=vj F sk m p hk Z aj;have R:=nX Z p;obtain⟨t,ht⟩:∃t,aE p m.keep=t:=⟨_,rfl⟩
 rw[ht]at k h0 h1 h2 R;obtain⟨bs,ai⟩:∃bs,(dp p t (propB p d)).1=bs:=⟨_,rfl⟩
 have am:=jX (p:=p) hd;have X:=fun F1 (h:Fz.le F F1) V hb=>wq F1 (hM.mono h) V t p (propB p d) hb R oo
 rw[ai]at X h2;have aa:=fun F1 V hb=>vo F1 V t hb R
 obtain⟨id,src,al,ak,ks⟩:=m;obtain⟨kn,kb,ke,kc,kL,kr,rfl,k1,k2,k3,k4⟩:=hk;obtain⟨an,ab,ae,ac,bn,bb,be,bc,rfl,rfl,hL,hK,Y⟩:=hD;have af:=fun F1 (h:Fz.le F F1)=>rj pfun F1 an ab ae ac bn bb be bc d (hL.mono h) (hK.mono h) O.l O.c O.b Y p hp
 have ad:pAns p d=.ret (.tup [.va (.str (propB p d)),.va (.int .i64 0)]):=by rw[pAns,if_pos hd,if_pos hd]
 simp only[ad]at af;clear ad ht
 have Q:t=[]\/t=[(6,0)]\/(0 < t.length/\t≠[]/\t≠[(6,0)]):=by
  by_cases e:t=[]
  ·exact .inl e
  ·by_cases W:t=[(6,0)]
   ·exact .inr (.inl W)
   ·exact .inr (.inr ⟨qa3.2 e,e,W⟩)
 refine Or.elim Q (fun e=>?_) (fun Q=>Or.elim Q (fun e=>?_) (fun e=>?_))
 ·subst e;obtain⟨rfl,rfl,rfl,rfl⟩:=h0 rfl;refine ctS func88 ?_;refine useFs k ?_;rintro _ F1 h ⟨V,rfl,a⟩;obtain⟨G,B,E,D,A,I,rfl,q,u,x,y⟩:=a;refine bre dd ?_;exact clean [] (.ret (.tup [])) F1 (hpL n o i j M J T S) 4 ⟨h,rfl,rfl,rfl⟩ (aP _) rfl rfl (by simp[Out.below,SV.below]) (dD oo _ _ _ _ _ _ _ _) ⟨Fz.r F1,rfl,aJ aG (aO _ _ _ _ _),aJ aC (aO _ _ _ _ _),tv⟩
 ·subst e;have hc:=h1 rfl;refine ctS func88 ?_;refine useFs k ?_;rintro _ F1 h ⟨V,rfl,a⟩;have f:=a;obtain⟨G,B,E,D,A,I,rfl,q,u,x,y⟩:=a;refine brd dd ?_;refine useFs (aa F1 _ f) ?_;rintro _ F2 U rfl;refine bre dd ?_;refine useS (hc F2) [(1,1),(2,2),(3,3)] (dD oo _ _ _ _ _ _ _ _) ⟨rfl,aJ aG (aO _ _ _ _ _),aJ aC (aO _ _ _ _ _),tv⟩ ?_;rintro ag F3 x0 n0 l3 ⟨rfl,rfl,rfl⟩;exact clean [] (.ret (.tup [])) F3 (hpL n o i j M J T S) 4 ⟨Fz.t h (Fz.t U l3),rfl,rfl,rfl⟩ (aP _) rfl rfl (by simp[Out.below,SV.below]) (dD oo _ _ _ _ _ _ _ _) ⟨Fz.r F3,rfl,dU aG,dU aC,tv⟩
 ·have e0:=e.1;have W:=e.2.2;have ti:¬(t.length:Int)=0:=by omega
  have hc:=h2 e.2.1 W;refine ctS func88 ?_;refine useFs k ?_;rintro _ F1 h ⟨V,rfl,a⟩;have f:=a;obtain⟨G,B,E,D,A,I,rfl,q,u,x,y⟩:=a;refine brj ti ?_;refine useFs (aa F1 _ f) ?_;rintro _ F2 U rfl;refine brj W ?_;refine useFs (af F2 (Fz.t h U)) ?_;rintro _ F3 l3 rfl;have ah:=f.mono (Fz.t U l3);have ha:=X F3 (Fz.t h (Fz.t U l3)) _ ah;refine useFs ha ?_;rintro _ F4 l4 rfl;refine useS (hc F4) [(1,1),(2,2),(3,3),(4,6)] ⟨cV oo _ _ _ _ _ _ _ _,aS aG _ _ _ _ _ _,aS aC _ _ _ _ _ _,dg _ _,tv⟩ ⟨rfl,aJ aG (aO _ _ _ _ _),aJ aC (aO _ _ _ _ _),rfl,tv⟩ ?_;rintro ag F5 x0 n0 l5 ⟨rfl,rfl,rfl⟩;exact clean [] (.ret (.tup [])) F5 (hpL n o i j M J T S) 4 ⟨Fz.t h (Fz.t U (Fz.t l3 (Fz.t l4 l5))),rfl,rfl,rfl⟩ (aP _) rfl rfl (by simp[Out.below,SV.below]) (dD oo _ _ _ _ _ _ _ _) ⟨Fz.r F5,rfl,dU aG,dU aC,tv⟩
theorem DZ(F:Fz)(q:Bool)(c:Nat)(l:List Cel)(n:q=true->l=[])(i:l.length<=1000):
  Ct prog 87 [.va (.slice q 1 0 0 6 l.length c)] F [(1,rwE q 151 6 encK c l)] 2
   (fun o k m n0=>n0=2/\∃j b c',o=.ret (.va (.slice j 0 b 0 6 l.length c'))/\Sl k 151 6 encK (.slice j 0 b 0 6 l.length c') l/\l.length<=c'/\m=[(1,rwE q 151 6 encK c l)]):=by
 rcases q with _ | _
 ·rcases l with _ | ⟨x,r⟩
  ·refine ctS func87 ?_;refine brd dd ⟨rfl,by simp,[],rfl,rfl,rfl,rfl,by decide,fun c' f=>?_⟩;refine dZ 3 (fun _=>.arr 151 6 [] c') ?_;intro b e d a;exact clean [] (.ret (.va (.slice false 0 (b 0) 0 6 0 c'))) e [(1,rwE false 151 6 encK c [])] 2 ⟨d,rfl,false,b 0,c',rfl,Sl.new (l:=[]) (a 0 rfl),jx _,rfl⟩ ⟨rfl,rfl,rfl,.inr ⟨rfl,rfl,rfl,rfl⟩⟩ rfl rfl (.inr dd) ⟨aS aC _ _ _ _ _ _,tv⟩ ⟨Fz.r e,aJ aC (aO _ _ _ _ _),tv⟩
  ·replace i:r.length+1<=1000:=i;have h:(0+((x::r).map encK).length)*48<=140737488355328:=by rw[qa,qe];omega
   refine ctS func87 ?_;refine brd dd ⟨rfl,by simp,(x::r).map encK,by rw[y8,ql ss],rfl,rfl,rfl,h,fun c' f=>?_⟩;have g:=f;clear f;refine cD 3 (fun _=>.arr 151 6 ((x::r).map encK) c') rfl rfl rfl (fun _ _=>by exact cY aC rfl _ _ _ _) (fun _ _=>cF aC _ _ _ _ _) ?_;intro b e d a;exact clean [] (.ret (.va (.slice false 0 (b 0) 0 6 (x::r).length c'))) e [(1,rwE false 151 6 encK c (x::r))] 2 ⟨d,rfl,false,b 0,c',rfl,Sl.new (l:=x::r) (a 0 rfl),by simpa using g,rfl⟩ ⟨rfl,(by first | rfl | (rw[qa];omega)),(by first | rfl | (rw[qa];omega)),.inr ⟨rfl,rfl,rfl,rfl⟩⟩ rfl rfl (.inr dd) ⟨aS aC _ _ _ _ _ _,tv⟩ ⟨Fz.r e,aJ aC (aO _ _ _ _ _),tv⟩
 ·obtain rfl:=n rfl;refine ctS func87 ?_;refine bre dd ?_;exact clean [] (.ret (.va (.slice true 0 0 0 6 0 0))) F [(1,rwE true 151 6 encK c [])] 2 ⟨Fz.r F,rfl,true,0,0,rfl,Sl.nil,qi _,rfl⟩ ⟨rfl,rfl,rfl⟩ rfl rfl (.inl rfl) ⟨aS aC _ _ _ _ _ _,tv⟩ ⟨Fz.r F,aJ aC (aO _ _ _ _ _),tv⟩
theorem sl_of{α:Type}{F:Fz}{q:Bool}{b c:Nat}{t sz:Nat}{e:α->List SA}{l:List α}(d:q=true->l=[])(a:q=false->F b=some (.arr t sz (l.map e) c)):Sl F t sz e (.slice q 0 b 0 sz l.length c) l:=by
 cases q with
 |true=>obtain rfl:=d rfl;exact⟨true,b,0,c,[],0,rfl,fun _=>rfl,(fun h=>nomatch h),by simp,by simp⟩
 |false=>exact Sl.new (a rfl)
abbrev intE(z:Int):Ent:=.one (.cells 3 [.int .i64 z])
theorem yb7(F:Fz)(c:Cel)(r k:Int):Ct prog 221 [.agg (encK c),.va (.ptr ⟨1,0,0,0,0⟩),.va (.ptr ⟨2,0,0,0,0⟩)] F [(1,intE r),(2,intE k)] 3
  (fun o f h n0=>F=f/\n0=3/\o=.ret (.va (.bool (decide (c.row=r/\c.col=k))))/\h=[(1,intE r),(2,intE k)]):=by
 obtain⟨a,b,cs,j,ct,i⟩:=c;have e:(a=r/\b=k)\/(a=r/\¬b=k)\/¬a=r:=by omega
 rcases e with⟨h1,d⟩ | ⟨h1,d⟩ | h1
 ·refine ctS func221 ?_;refine⟨fun _=>?_,fun g=>absurd h1 (oe g)⟩;exact clean [] (.ret (.va (.bool (decide (a=r/\b=k))))) F [(1,intE r),(2,intE k)] 3 ⟨Fz.r F,rfl,rfl,rfl,rfl⟩ (ob (by simp[h1,d])) rfl rfl trivial ⟨(SB.bB_ok rfl:SB.below 3 (.cells 3 [.int .i64 r])),(SB.bB_ok rfl:SB.below 3 (.cells 3 [.int .i64 k])),tv⟩ ⟨Fz.r F,rfl,rfl,tv⟩
 ·refine ctS func221 ?_;refine⟨fun _=>?_,fun g=>absurd h1 (oe g)⟩;exact clean [] (.ret (.va (.bool (decide (a=r/\b=k))))) F [(1,intE r),(2,intE k)] 3 ⟨Fz.r F,rfl,rfl,rfl,rfl⟩ (ob (by simp[h1,d])) rfl rfl trivial ⟨(SB.bB_ok rfl:SB.below 3 (.cells 3 [.int .i64 r])),(SB.bB_ok rfl:SB.below 3 (.cells 3 [.int .i64 k])),tv⟩ ⟨Fz.r F,rfl,rfl,tv⟩
 ·refine ctS func221 ?_;refine⟨fun g=>absurd (od g) h1,fun _=>?_⟩;exact clean [] (.ret (.va (.bool (decide (a=r/\b=k))))) F [(1,intE r),(2,intE k)] 3 ⟨Fz.r F,rfl,rfl,rfl,rfl⟩ (ob (by simp[h1])) rfl rfl trivial ⟨(SB.bB_ok rfl:SB.below 3 (.cells 3 [.int .i64 r])),(SB.bB_ok rfl:SB.below 3 (.cells 3 [.int .i64 k])),tv⟩ ⟨Fz.r F,rfl,rfl,tv⟩
theorem tD(c:Cel)(i j:Nat)(e:i < 3:=by omega)(f:j < 3:=by omega):∀t∈[SV.agg (encK c),.va (.ptr ⟨i,0,0,0,0⟩),.va (.ptr ⟨j,0,0,0,0⟩)],SV.below 3 t:=by
 intro t b;simp only[qh,qq,or_false]at b;rcases b with rfl | rfl | rfl
 ·exact fun a d=>SA.below_mono (jx 3) ((aC c).2 a d)
 ·exact e
 ·exact f
theorem ix{n:Nat}(r k:Int):bH n [(1,intE r),(2,intE k)]:=⟨(SB.bB_ok rfl:SB.below n (.cells 3 [.int .i64 r])),(SB.bB_ok rfl:SB.below n (.cells 3 [.int .i64 k])),tv⟩
theorem yas(F:Fz)(q:Bool)(I L J:Nat)(K:List Cel)(r k:Int)(i:Nat)(R:Sl F 151 6 encK (.slice q 0 I L 6 K.length J) K)(hl:K.length<=1000)(E:i < K.length)(y:(K[i]'E).row=r/\(K[i]'E).col=k)(l:∀j (h:j < K.length),j < i->¬((K[j]'h).row=r/\(K[j]'h).col=k)):
  Ct prog 220 [.va (.slice q 0 I L 6 K.length J),.va (.fn (.func 221) [⟨1,0,0,0,0⟩,⟨2,0,0,0,0⟩])] F [(1,intE r),(2,intE k)] 3
   (fun o O Q n0=>F=O/\n0=3/\o=.ret (.va (.int .i64 i))/\Q=[(1,intE r),(2,intE k)]):=by
 obtain⟨Y,U,W,V,T,Z,D,A,c,S,B⟩:=R;cases D
 have b:q=false:=Sl.lt A E;refine ctS func220 ?_;conv=>whnf
 refine aH hΘ (X:={ j:Nat // j<=i }) (fun x=>[(8,.va (.int .i64 x.1))]) (4::5::jr 9 10 [])
  (fun x=>[(0,.frz F),(1,intE r),(2,intE k)]) 3 (fun x=>i - x.1) ⟨0,jx _⟩
  (fun u w=>leI [] u w rfl ⟨tv,ix r k⟩ ⟨rfl,tv⟩ ⟨Fz.r F,rfl,rfl,tv⟩) ?_
 rintro⟨j,M⟩ u w;replace M:j<=i:=M;have s:j < K.length:=by omega
 have p:(j:Int) < (K.length:Int):=by omega
 have m:=Sl.at B s;have f:j < 4611686018427387904:=by omega
 have a:=yb7 F (K[j]'s) r k;by_cases g:j=i
 ·subst g;rw[decide_eq_true y]at a;refine bri p ⟨b,⟨jz j,p⟩,_,c b,_,m,?_⟩;refine use a [(1,1),(2,2)] rfl ⟨rfl,rfl,rfl,tv⟩ rfl (ix r k) (tD _ _ _) ⟨rfl,rfl,tv⟩ ?_;rintro n F1 x0 n0 l1 ⟨rfl,rfl,rfl,rfl⟩;refine bre dd ?_;exact clean [] (.ret (.va (.int .i64 j))) F [(1,intE r),(2,intE k)] 3 ⟨Fz.r F,rfl,rfl,rfl,rfl⟩ (aP _) rfl rfl trivial (ix r k) ⟨Fz.r F,rfl,rfl,tv⟩
 ·have e:j < i:=by omega
  have G:=l j s e;have d:i - (j+1) < i - j:=by omega
  rw[decide_eq_false G]at a;refine bri p ⟨b,⟨jz j,p⟩,_,c b,_,m,?_⟩;refine use a [(1,1),(2,2)] rfl ⟨rfl,rfl,rfl,tv⟩ rfl (ix r k) (tD _ _ _) ⟨rfl,rfl,tv⟩ ?_;rintro n F1 x0 n0 l1 ⟨rfl,rfl,rfl,rfl⟩;refine brd dd ?_;exact⟨⟨j+1,e⟩,d,leR [] u w rfl ⟨tv,ix r k⟩ ⟨cnt f,tv⟩ ⟨Fz.r F,rfl,rfl,tv⟩⟩
theorem Cj(F:Fz)(I J:SA)(d:Dc)(hD:DocAt F I J d)(a:DcSmall d)(hd:docOk d=true)(r k:Int)(i:Nat)(f:i < d.cells.length)(x:(d.cells[i]'f).row=r/\(d.cells[i]'f).col=k)(n:∀j (h:j < d.cells.length),j < i->¬((d.cells[j]'h).row=r/\(d.cells[j]'h).col=k))(v:Int)(E:(valsF d.cells)[i]? =some v):
  Fo prog F 153 [.agg (docS I J d.w d.bits),.va (.int .i64 r),.va (.int .i64 k)] (fun o _=>o=.ret (.tup [.va (.int .i64 v),.va (.bool true)])):=by
 obtain⟨L,K,w,s⟩:=d;obtain⟨Z,W,Y,X,R,M,Q,O,rfl,rfl,hL,u,m⟩:=hD;have B:=yas F R M Q O K r k i u a.c f x n;have e:=fun F1 (q:Fz.le F F1)=>oh F1 _ _ ⟨L,K,w,s⟩ (hL.mono q) (u.mono q) a.l a.c a.b
 rw[hd]at e;have G:=fun F1 (q:Fz.le F F1)=>uz F1 Z W Y L.length X R M Q O K w s (u.mono q) a.c m
 replace f:i < K.length:=f;replace E:(valsF K)[i]? =some v:=E;have y:¬(i:Int) < 0:=by omega
 have A:(i:Int) < (K.length:Int):=by omega
 refine foS func153 ?_;refine useS B [(1,2),(2,3)] (ix r k) ⟨rfl,rfl,tv⟩ ?_;rintro T F1 x0 n0 q ⟨rfl,rfl,rfl,rfl⟩;refine⟨fun _=>?_,fun g=>absurd (od g) y⟩;refine useFs (e F (Fz.r F)) ?_;rintro _ V S ⟨rfl,rfl⟩;refine brd dd ?_;refine useFs (G V S) ?_;rintro _ F3 l3 (⟨rfl,p⟩ | ⟨vb,vc,vL,U,rfl,hb,hr⟩)
 ·exact absurd f (by rw[p];simp)
 ·have D:=hr i v E;refine⟨rfl,⟨jz i,A⟩,_,hb,_,D,?_⟩;exact endFs (.ret (.tup [.va (.int .i64 v),.va (.bool true)])) (Fz.t S l3) rfl
