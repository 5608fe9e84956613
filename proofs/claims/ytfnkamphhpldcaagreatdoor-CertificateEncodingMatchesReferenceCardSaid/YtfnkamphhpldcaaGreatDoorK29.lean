import Derived.Test.YtfnkamphhpldcaaGreatDoorK28
import Derived.Test.YtfnkamphhpldcaaGreatDoorK20
import Derived.Test.YtfnkamphhpldcaaGreatDoorK22
import Derived.Lib.UnsafeStr
import Derived.Test.YtfnkamphhpldcaaGreatDoorK09
set_option maxHeartbeats 64000000
namespace Go.Proofs.YtfnkamphhpldcaaGreatDoor
open Go Go.RowKit Sx Tryz
theorem wb{h:Hp}{nx:Nat}{K:Out->Hp->Nat->Prop}{i:Nat}{bf:SA}(g:lget h i=some (.one (.cells 174 [.nilptr,bf])))
  (D:K (.ret (.tup [])) (lput h i (.one (.cells 174 [.ptr ⟨i,0,0,0,0⟩,bf]))) nx):za6 prog 256 [.va (.ptr ⟨i,0,0,0,0⟩)] h nx K:=by
 unfold za6;intro C ρ w vs S q I;refine⟨Sx.enters_of func256 rfl dd,?_⟩
 match vs,q with
 |[v],q=>
  have E:v=.pointer (some ⟨ρ i 0,0,none⟩):=by
   have h1:=q.1;simpa[SV.rel,SA.den,Pl.addr]using h1
  subst E;have has:(Ent.one (.cells 174 [.nilptr,bf])).has 0:=rfl;obtain⟨o,j,f⟩:=S.blk i _ g 0 has;have u:=S.wf i _ g 0 has;have p:=S.lt i _ g;have d:RowAt w (ρ i 0) 174 ([SA.nilptr,bf].map (SA.den ρ)):=⟨o,j,f⟩
  have y:w.cell? ⟨ρ i 0,0,none⟩=some (.pointer none):=by rw[d.cell];rfl
  have m:=d.free 0 ss;obtain⟨fr,l,rfl⟩:=f;have s:w.shape? (ρ i 0)=some (174,2):=by simp[World.shape?,j]
  refine(Az (ρ i 0) w y s m).mono ?_;rintro e J ⟨rfl,rfl⟩;rw[setCell_eq_setRow w (ρ i 0) 0 _ 174 fr _ j];refine⟨.ret (.tup []),_,nx,ρ,D,⟨_,rfl,rfl⟩,?_,fun _ _=>rfl,qi _,?_⟩
  ·exact S.upd 0 g rfl rfl has (fun _=>Iff.rfl) _ (fun G n A=>absurd (show G=0 from A) n) ⟨fr,l,rfl⟩ (fun a x=>by
    simp only[qh,qq,or_false]at x;rcases x with rfl | rfl
    ·exact p
    ·exact u a ss) rfl rfl rfl ss (setRow_heap w _ _ _ 174 _ j) (fun b k=>kX w _ b _ k)
  ·intro c B;cases B
theorem pg{h:Hp}{nx:Nat}{K:Out->Hp->Nat->Prop}{i:Nat}{bf:SA}(j:lget h i=some (.one (.cells 174 [.ptr ⟨i,0,0,0,0⟩,bf])))
  (k:K (.ret (.tup [])) h nx):za6 prog 256 [.va (.ptr ⟨i,0,0,0,0⟩)] h nx K:=by
 unfold za6;intro C ρ w vs S d n;refine⟨Sx.enters_of func256 rfl dd,?_⟩
 match vs,d with
 |[v],d=>
  have m:v=.pointer (some ⟨ρ i 0,0,none⟩):=by
   have h1:=d.1;simpa[SV.rel,SA.den,Pl.addr]using h1
  subst m;have has:(Ent.one (.cells 174 [.ptr ⟨i,0,0,0,0⟩,bf])).has 0:=rfl;obtain⟨o,l,b⟩:=S.blk i _ j 0 has;have a:RowAt w (ρ i 0) 174 ([SA.ptr ⟨i,0,0,0,0⟩,bf].map (SA.den ρ)):=⟨o,l,b⟩
  have f:w.cell? ⟨ρ i 0,0,none⟩=some (.pointer (some ⟨ρ i 0,0,none⟩)):=by rw[a.cell];simp[SA.den,Pl.addr]
  refine(CC (ρ i 0) w f).mono ?_;rintro e p ⟨rfl,rfl⟩;exact⟨.ret (.tup []),h,nx,ρ,k,⟨_,rfl,rfl⟩,S,fun _ _=>rfl,qi _,fun c g=>by cases g⟩
end Go.Proofs.YtfnkamphhpldcaaGreatDoor
namespace Go.Proofs.YtfnkamphhpldcaaGreatDoor
open Go Sx Tryz
set_option maxRecDepth 100000
def wrA(u:Bool)(i:Nat):SA:=match u with
 |false=>.nilptr
 |true=>.ptr ⟨i,0,0,0,0⟩
def wrC(u:Bool)(i j c:Nat)(l:List UInt8):Ent:=.one (.cells 174 [wrA u i,gA 1 j c l])
variable {i j:Nat}
theorem bY{n:Nat}(u:Bool)(e:i < n)(d:j < n)(c:Nat)(l:List UInt8):(wrC u i j c l).below n:=by
 cases u<;>intro a b<;>simp only[qh,qq,or_false]at b<;>rcases b with rfl | rfl
 ·trivial
 ·cases l with
  |nil=>trivial
  |cons x r=>exact .inr d
 ·exact e
 ·cases l with
  |nil=>trivial
  |cons x r=>exact .inr d
variable {i' j':Nat}
theorem kD{μ:Mu}{u:Bool}(b:μ i 0=(i',0))(a:μ j 0=(j',0))(c:Nat)(l:List UInt8):(wrC u i j c l).ren μ=wrC u i' j' c l:=by
 cases u
 ·show Ent.one (.cells _ [.nilptr,(gA 1 j c l).ren μ])=_;rw[ng a];rfl
 ·show Ent.one (.cells _ [.ptr ⟨(μ i 0).1,(μ i 0).2+0,0,0,0⟩,(gA 1 j c l).ren μ])=_;rw[ng a,b];rfl
theorem cZ{μ:Mu}{u:Bool}{c:Nat}{l:List UInt8}(a:μ i 0=(i',0))(b:μ j 0=(j',0)):subE (some (wrC u i' j' c l)) ((wrC u i j c l).ren μ):=by
 rw[kD a b];cases u<;>exact rfl
theorem qK{μ:Mu}{c n:Nat}{x:UInt8}{l:List UInt8}(a:μ i 0=(i',0))(b:μ j 0=(j',0))(d:n=l.length+1):subE (some (.one (.cells 174 [.ptr ⟨i',0,0,0,0⟩,.slice false j' 0 0 1 n c]))) ((wrC true i j c (x::l)).ren μ):=by
 subst d;rw[kD a b];exact rfl
abbrev wrN(c:Nat)(l:List UInt8):List (Nat×Ent):=[(1,wrC true 1 3 c l),(2,.gone),(3,gE 5 1 encB c l)]
theorem kf(c:Nat)(l:List UInt8):bH 4 (wrN c l):=⟨bY _ oo oo _ _,tv,aF aB _ _ _ _ _,tv⟩
abbrev wrH(u:Bool)(c:Nat)(l:List UInt8):List (Nat×Ent):=[(1,wrC u 1 2 c l),(2,gE 5 1 encB c l)]
theorem rM(F:Fz)(u:Bool)(s out:List UInt8)(c:Nat)(h:u=false->out=[])(d:s.length<=1000000000000)(g:out.length<=1000000000000):
  Ct prog 224 [.va (.ptr ⟨1,0,0,0,0⟩),.va (.str s)] F (wrH u c out) 3
   (fun o e f n0=>F=e/\n0=4/\o=.ret (.tup [.va (.int .i64 s.length),.va .nilif])/\∃c',f=wrN c' (out++s)):=by
 rcases u with _ | _
 ·obtain rfl:=h rfl;rcases s with _ | ⟨b,t⟩
  ·refine ctS func224 ?_;refine wb rfl ?_;refine⟨rfl,rfl,?_⟩;exact clean [(3,2)] (.ret (.tup [.va (.int .i64 0),.va .nilif])) F (wrN c []) 4 ⟨Fz.r F,rfl,rfl,rfl,c,rfl⟩ (aP _) rfl rfl (Out.bB_ok (o:=.ret (.tup [.va (.int .i64 0),.va .nilif])) rfl) (kf _ _) ⟨Fz.r F,rfl,aQ aB (bF _ _ _ _),tv⟩
  ·refine ctS func224 ?_;refine wb rfl ?_;refine⟨rfl,rfl,by show((t.map fun b:UInt8=>[SA.int .u8 b.toNat]).length+1)*1<=140737488355328;rw[qa];simp at d;omega,fun c' a=>?_⟩;clear a;exact clean [(3,3)] (.ret (.tup [.va (.int .i64 (b::t).length),.va .nilif])) F (wrN c' (b::t)) 4 ⟨Fz.r F,rfl,rfl,rfl,c',rfl⟩ (aP _) rfl rfl (Out.bB_ok (o:=.ret (.tup [.va (.int .i64 (b::t).length),.va .nilif])) rfl) (kf _ _) ⟨Fz.r F,qK (i:=1) (i':=1) (j:=3) (j':=3) (by rfl) (by rfl) ss,aQ aB (aZ _ (by rfl)),tv⟩
 ·rcases out with _ | ⟨x,r⟩
  ·rcases s with _ | ⟨b,t⟩
   ·refine ctS func224 ?_;refine pg rfl ?_;refine⟨rfl,rfl,?_⟩;exact clean [(3,2)] (.ret (.tup [.va (.int .i64 0),.va .nilif])) F (wrN c []) 4 ⟨Fz.r F,rfl,rfl,rfl,c,rfl⟩ (aP _) rfl rfl (Out.bB_ok (o:=.ret (.tup [.va (.int .i64 0),.va .nilif])) rfl) (kf _ _) ⟨Fz.r F,rfl,aQ aB (bF _ _ _ _),tv⟩
   ·refine ctS func224 ?_;refine pg rfl ?_;refine⟨rfl,rfl,by show((t.map fun b:UInt8=>[SA.int .u8 b.toNat]).length+1)*1<=140737488355328;rw[qa];simp at d;omega,fun c' a=>?_⟩;clear a;exact clean [(3,3)] (.ret (.tup [.va (.int .i64 (b::t).length),.va .nilif])) F (wrN c' (b::t)) 4 ⟨Fz.r F,rfl,rfl,rfl,c',rfl⟩ (aP _) rfl rfl (Out.bB_ok (o:=.ret (.tup [.va (.int .i64 (b::t).length),.va .nilif])) rfl) (kf _ _) ⟨Fz.r F,qK (i:=1) (i':=1) (j:=3) (j':=3) (by rfl) (by rfl) ss,aQ aB (aZ _ (by rfl)),tv⟩
  ·refine ctS func224 ?_;refine pg rfl ?_;refine⟨rfl,rfl,by simp,rfl,by rw[qa];show(r.length+1+s.length)*1<=140737488355328;simp at g;omega,fun c' a=>?_⟩;clear a;exact clean [(3,3)] (.ret (.tup [.va (.int .i64 s.length),.va .nilif])) F (wrN c' (x::(r++s))) 4 ⟨Fz.r F,rfl,rfl,rfl,c',rfl⟩ (aP _) rfl rfl (Out.bB_ok (o:=.ret (.tup [.va (.int .i64 s.length),.va .nilif])) rfl) (kf _ _) ⟨Fz.r F,qK (i:=1) (i':=1) (j:=3) (j':=3) (by rfl) (by rfl) (by rw[qa,qb];omega),aQ aB (aZ _ (by show((x::r).map encB)++(s.map encB)=(x::(r++s)).map encB;simp)),tv⟩
theorem dK{τ μ:Mu}{u:Bool}{a b k c:Nat}{l:List UInt8}(h1:τ a 0=(i',0))(d:μ i 0=(i',0))(e:τ b 0=(j',0))(f:μ j 0=(j',0))(g:k=i):subE (some ((wrC u a b c l).ren τ)) ((wrC u k j c l).ren μ):=by
 subst g;rw[kD h1 e,kD d f];cases u<;>exact rfl
abbrev wrM(u:Bool)(c:Nat)(l:List UInt8):List (Nat×Ent):=[(1,wrC u 1 3 c l),(2,.gone),(3,gE 5 1 encB c l)]
theorem es(u:Bool)(c:Nat)(l:List UInt8):bH 4 (wrM u c l):=⟨bY _ oo oo _ _,tv,aF aB _ _ _ _ _,tv⟩
abbrev wrK(F:Fz)(out:List UInt8):Out->Fz->List (Nat×Ent)->Nat->Prop:=fun o b c n0=>F=b/\n0=4/\o=.ret (.tup [])/\∃a c',(a=false->out=[])/\c=wrM a c' out
theorem xT(e:PFun)(F:Fz)(u:Bool)(s out:List UInt8)(c:Nat)(j:u=false->out=[])(l:s.length<=1000000000)(i:out.length<=1000000000000):
  Ct prog 160 [.va (.ptr ⟨1,0,0,0,0⟩),.va (.str s)] F (wrH u c out) 3 (wrK F (out++(putSR s).1)):=by
 have a:=kY e F s oo;have f:=ek s;have b:∃t,(putSR s).1=t:=⟨_,rfl⟩
 obtain⟨t,b⟩:=b;rw[b]at a f ⊢;refine ctS func160 ?_;refine usePs (a) ?_;refine useS (rM F u t out c j oo i) [(1,1),(2,2)] ⟨bY _ oo oo _ _,aF aB _ _ _ _ _,tv⟩ ⟨cZ (by rfl) (by rfl),aQ aB (bF _ _ _ _),tv⟩ ?_;rintro _ k _ _ g ⟨rfl,rfl,rfl,d,rfl⟩;exact clean [(3,3)] (.ret (.tup [])) F (wrM true d (out++t)) 4 ⟨Fz.r F,rfl,rfl,rfl,true,d,fun h=>absurd h ss,rfl⟩ trivial rfl rfl (Out.bB_ok (o:=.ret (.tup [])) rfl) (es _ _ _) ⟨Fz.r F,dK (i':=1) (j':=3) (by rfl) (by rfl) (by rfl) (by rfl) rfl,cU aB,tv⟩
theorem eM(K:PFun)(F:Fz)(G:SA)(l:List Int)(u:Bool)(out:List UInt8)(c:Nat)(W:u=false->out=[])(L:dX F G l)(Z:l.length < 1000000)(ho:out.length<=900000000000):
  Ct prog 159 [.va (.ptr ⟨1,0,0,0,0⟩),.va G] F (wrH u c out) 3 (wrK F (out++aA l)):=by
 obtain⟨T,Q,S,R,O,U,rfl,f,A,M,B⟩:=L;refine ctS func159 ?_;conv=>whnf
 refine aH hΘ (X:={ x:Nat×List UInt8×Nat×Bool // x.1<=l.length/\x.2.1=out++((l.take x.1).map fun n=>(putIR n).1).flatten/\(x.2.2.2=false->x.2.1=[]) }) (fun x=>[(10,.va (.int .i64 x.1.1))]) (5::6::7::jr 11 14 [])
  (fun x=>[(0,.frz F),(1,wrC x.1.2.2.2 1 3 x.1.2.2.1 x.1.2.1),(2,.gone),(3,gE 5 1 encB x.1.2.2.1 x.1.2.1)]) 4 (fun x=>l.length - x.1.1) ⟨(0,out,c,u),by simpa using W⟩
  (fun w y=>leI [(3,2)] w y rfl ⟨tv,bY _ oo oo _ _,tv,aF aB _ _ _ _ _,tv⟩ ⟨rfl,tv⟩ ⟨Fz.r F,cZ (by rfl) (by rfl),aQ aB (bF _ _ _ _),tv⟩) ?_
 rintro⟨⟨k,ob,s,q⟩,E,a,b⟩ w y;replace E:k<=l.length:=E;replace a:ob=out++((l.take k).map fun n=>(putIR n).1).flatten:=a;replace b:q=false->ob=[]:=b
 have g:ob.length<=1000000000000:=by
  have J:=gP er (l.take k);rw[qk]at J;rw[a,qb];omega
 refine br (fun m=>?_) (fun m=>?_)
 ·have e:k < l.length:=by simpa using m
  clear m;have j:=K F l[k];have p:∃t,(putIR l[k]).1=t:=⟨_,rfl⟩
  obtain⟨t,p⟩:=p;have D:=er l[k];have i:ob++t=out++((l.take (k+1)).map fun n=>(putIR n).1).flatten:=by rw[eN e,p,a,qj]
  rw[p]at j D;refine⟨Sl.lt f e,⟨by simp,by simpa using e⟩,_,A (Sl.lt f e),_,Sl.at B e,?_⟩;refine usePs (j) ?_;refine useS (rM F q t ob s b oo g) [(1,1),(2,3)] ⟨bY _ oo oo _ _,aF aB _ _ _ _ _,tv⟩ ⟨cZ (by rfl) (by rfl),aQ aB (bF _ _ _ _),tv⟩ ?_;rintro _ Y _ _ V ⟨rfl,rfl,rfl,I,rfl⟩;exact⟨⟨(k+1,ob++t,I,true),by show k+1<=l.length;omega,i,fun h=>absurd h ss⟩,by show l.length - (k+1) < l.length - k;omega,leR [(3,4)] w y rfl ⟨tv,bY _ oo oo _ _,tv,aF aB _ _ _ _ _,tv⟩ ⟨cnt oo,tv⟩ ⟨Fz.r F,dK (i':=1) (j':=4) (by rfl) (by rfl) (by rfl) (by rfl) rfl,cU aB,tv⟩⟩
 ·have e:¬k < l.length:=by simpa using m
  have d:ob=out++aA l:=by rw[a,aA,ql oo]
  exact clean [(3,3)] (.ret (.tup [])) F (wrM q s ob) 4 ⟨Fz.r F,rfl,rfl,rfl,q,s,by rw[<-d];exact b,by rw[d]⟩ trivial rfl rfl (Out.bB_ok (o:=.ret (.tup [])) rfl) (es _ _ _) ⟨Fz.r F,cZ (by rfl) (by rfl),aQ aB (bF _ _ _ _),tv⟩
abbrev wrL(out:List UInt8):Out->Fz->List (Nat×Ent)->Nat->Prop:=fun o _ b n0=>n0=4/\o=.ret (.tup [])/\∃a c',(a=false->out=[])/\b=wrM a c' out
def ptext(L:List DLn):List UInt8:=aA [(L.length:Int)]++(L.map fun x=>(putSR x.1).1).flatten
def pmot(L:List DLn):List UInt8:=aA [(L.length:Int)]++(L.map fun x=>aA [x.2]).flatten
theorem oH:∀(L:List DLn),(∀x∈L,x.1.length<=1000000)->((L.map fun x=>(putSR x.1).1).flatten).length<=L.length*2000000
 |[],_=>by simp
 |x::r,h=>by
  have h1:=ek x.1;have b:=h x ss;have c:=oH r fun y a=>h y (by simp[a])
  rw[qw,jm,qb,qe];omega
theorem pp:∀(L:List DLn),((L.map fun x=>aA [x.2]).flatten).length<=L.length*1000
 |[]=>by simp
 |x::r=>by
  have h1:=du [x.2];have a:=pp r;rw[yi]at h1;rw[qw,jm,qb,qe];omega
theorem ycr(hP:PFun)(F:Fz)(D:Bool)(A u B:Nat)(bn:Bool)(Z be bl bc:Nat)(L:List DLn)(w:Int)(s:List UInt8)(ha:Sl F 148 2 encN (.slice D 0 A u 2 L.length B) L)(hl:L.length<=1000)(hx:∀x∈L,x.1.length<=1000000):
  Ct prog 158 [.agg (docS (.slice D 0 A u 2 L.length B) (.slice bn 0 Z be 6 bl bc) w s),.va (.ptr ⟨1,0,0,0,0⟩)] F (wrH false 0 []) 3 (wrL (ptext L)):=by
 obtain⟨ai,af,ah,ag,M,aj,R,f,J,ad,K⟩:=ha;cases R
 refine ctS func158 ?_;refine bS 4 (fun _=>.arr 3 1 ([((L.length:Nat):Int)].map encI) 1) ?_;intro b1 F1 l1 Q;refine useS (eM hP F1 _ [((L.length:Nat):Int)] false [] 0 (fun _=>rfl) (Sl.new (l:=[((L.length:Nat):Int)]) (cap:=1) (Q 0 rfl)) ss ss) [(1,1),(2,2)] ⟨bY _ oo oo _ _,aF aB _ _ _ _ _,tv⟩ ⟨cZ (by rfl) (by rfl),aQ aB (bF _ _ _ _),tv⟩ ?_;rintro q F' h0 n0 U ⟨rfl,rfl,rfl,u1,c1,V,rfl⟩;conv=>whnf
 refine aH hΘ (X:={ x:Nat×List UInt8×Nat×Bool // x.1<=L.length/\x.2.1=aA [((L.length:Nat):Int)]++((L.take x.1).map fun x=>(putSR x.1).1).flatten/\(x.2.2.2=false->x.2.1=[]) }) (fun x=>[(17,.va (.int .i64 x.1.1))]) (5::jr 18 8 [])
  (fun x=>[(0,.frz F1),(1,wrC x.1.2.2.2 1 6 x.1.2.2.1 x.1.2.1),(3,docE4 (.slice D 0 A u 2 L.length B) (.slice bn 0 Z be 6 bl bc) w s),(5,.gone),(6,gE 5 1 encB x.1.2.2.1 x.1.2.1)]) 7 (fun x=>L.length - x.1.1) ⟨(0,[]++aA [((L.length:Nat):Int)],c1,u1),by simpa using V⟩
  (fun G I=>leI [(6,5)] G I rfl ⟨tv,bY _ oo oo _ _,dY (.inr oo) (.inr oo),tv,aF aB _ _ _ _ _,tv⟩ ⟨rfl,tv⟩ ⟨Fz.r F1,dK (i':=1) (j':=5) (by rfl) (by rfl) (by rfl) (by rfl) rfl,rfl,cU aB,tv⟩) ?_
 rintro⟨⟨k,ob,E,y⟩,hk,a,b⟩ G I;replace hk:k<=L.length:=hk;replace a:ob=aA [((L.length:Nat):Int)]++((L.take k).map fun x=>(putSR x.1).1).flatten:=a;replace b:y=false->ob=[]:=b
 have aa:ob.length<=100000000000:=by
  have h9:=oH (L.take k) (fun x Y=>hx x (yh Y));have h8:=du [((L.length:Nat):Int)];rw[qk]at h9;rw[yi]at h8;rw[a,qb];omega
 by_cases g:k < L.length
 ·have e:(k:Int) < (L.length:Nat):=by omega
  have j:0<=(k:Int)/\(k:Int) < (L.length:Nat):=by omega
  have S:∃t m,L[k]=(t,m):=⟨_,_,rfl⟩
  obtain⟨t,m,d⟩:=S;have O:M[u+(k:Int).toNat]? =some (encN (t,m)):=by rw[<-d];exact Sl.at K g
  have ak:t.length<=1000000:=by have:=hx _ (qx g);rw[d]at this;exact this
  have p:ob++(putSR t).1=aA [((L.length:Nat):Int)]++((L.take (k+1)).map fun x=>(putSR x.1).1).flatten:=by rw[eN g,d,a,qj]
  have T:k+1<=L.length:=g;have i:L.length - (k+1) < L.length - k:=by omega
  have n:k < 4611686018427387904:=by omega
  have h:=l1 _ _ (J (Sl.lt f g));refine bri e ⟨Sl.lt f g,j,_,h,_,O,?_⟩;refine useS (xT hP F1 y t ob E b oo oo) [(1,1),(2,6)] ⟨bY _ oo oo _ _,aF aB _ _ _ _ _,tv⟩ ⟨cZ (by rfl) (by rfl),aQ aB (bF _ _ _ _),tv⟩ ?_;rintro q F' h0 n0 U ⟨rfl,rfl,rfl,u2,c2,W,rfl⟩;exact⟨⟨(k+1,ob++(putSR t).1,c2,u2),T,p,W⟩,i,leR [(6,8)] G I rfl ⟨tv,bY _ oo oo _ _,dY (.inr oo) (.inr oo),tv,aF aB _ _ _ _ _,tv⟩ ⟨cnt n,tv⟩ ⟨Fz.r F1,dK (i':=1) (j':=8) (by rfl) (by rfl) (by rfl) (by rfl) rfl,rfl,cU aB,tv⟩⟩
 ·have e:¬(k:Int) < (L.length:Nat):=by omega
  have c:ob=ptext L:=by rw[a,ptext,ql oo]
  refine brj e ?_;exact clean [(3,6)] (.ret (.tup [])) F1 (wrM y E ob) 4 ⟨l1,rfl,rfl,y,E,by rw[<-c];exact b,by rw[c]⟩ trivial rfl rfl (Out.bB_ok (o:=.ret (.tup [])) rfl) (es _ _ _) ⟨Fz.r F1,cZ (by rfl) (by rfl),aQ aB (bF _ _ _ _),tv⟩
theorem ycs(hP:PFun)(F:Fz)(I:Bool)(D y E:Nat)(bn:Bool)(bb be bl bc:Nat)(L:List DLn)(w:Int)(s:List UInt8)(ha:Sl F 148 2 encN (.slice I 0 D y 2 L.length E) L)(hl:L.length<=1000):
  Ct prog 161 [.agg (docS (.slice I 0 D y 2 L.length E) (.slice bn 0 bb be 6 bl bc) w s),.va (.ptr ⟨1,0,0,0,0⟩)] F (wrH false 0 []) 3 (wrL (pmot L)):=by
 obtain⟨ak,ah,aj,ai,R,al,V,h,O,ag,Q⟩:=ha;cases V
 refine ctS func161 ?_;refine bS 4 (fun _=>.arr 3 1 ([((L.length:Nat):Int)].map encI) 1) ?_;intro b1 F1 l1 T;refine useS (eM hP F1 _ [((L.length:Nat):Int)] false [] 0 (fun _=>rfl) (Sl.new (l:=[((L.length:Nat):Int)]) (cap:=1) (T 0 rfl)) ss ss) [(1,1),(2,2)] ⟨bY _ oo oo _ _,aF aB _ _ _ _ _,tv⟩ ⟨cZ (by rfl) (by rfl),aQ aB (bF _ _ _ _),tv⟩ ?_;rintro u F' h0 n0 Z ⟨rfl,rfl,rfl,u1,c1,aa,rfl⟩;conv=>whnf
 refine aH hΘ (X:={ x:Nat×List UInt8×Nat×Bool×Fz // Fz.le F x.2.2.2.2/\x.1<=L.length/\x.2.1=aA [((L.length:Nat):Int)]++((L.take x.1).map fun x=>aA [x.2]).flatten/\(x.2.2.2.1=false->x.2.1=[]) }) (fun x=>[(17,.va (.int .i64 x.1.1))]) (5::jr 18 9 [])
  (fun x=>[(0,.frz x.1.2.2.2.2),(1,wrC x.1.2.2.2.1 1 6 x.1.2.2.1 x.1.2.1),(3,docE4 (.slice I 0 D y 2 L.length E) (.slice bn 0 bb be 6 bl bc) w s),(5,.gone),(6,gE 5 1 encB x.1.2.2.1 x.1.2.1)]) 7 (fun x=>L.length - x.1.1) ⟨(0,[]++aA [((L.length:Nat):Int)],c1,u1,F1),l1,by simpa using aa⟩
  (fun K M=>leI [(6,5)] K M rfl ⟨tv,bY _ oo oo _ _,dY (.inr oo) (.inr oo),tv,aF aB _ _ _ _ _,tv⟩ ⟨rfl,tv⟩ ⟨Fz.r F1,dK (i':=1) (j':=5) (by rfl) (by rfl) (by rfl) (by rfl) rfl,rfl,cU aB,tv⟩) ?_
 rintro⟨⟨k,ob,J,A,G⟩,e,hk,a,b⟩ K M;replace e:Fz.le F G:=e;replace hk:k<=L.length:=hk;replace a:ob=aA [((L.length:Nat):Int)]++((L.take k).map fun x=>aA [x.2]).flatten:=a;replace b:A=false->ob=[]:=b
 have af:ob.length<=100000000000:=by
  have h9:=pp (L.take k);have h8:=du [((L.length:Nat):Int)];rw[qk]at h9;rw[yi]at h8;rw[a,qb];omega
 by_cases g:k < L.length
 ·have d:(k:Int) < (L.length:Nat):=by omega
  have n:0<=(k:Int)/\(k:Int) < (L.length:Nat):=by omega
  have W:∃t m,L[k]=(t,m):=⟨_,_,rfl⟩
  obtain⟨t,m,f⟩:=W;have S:R[y+(k:Int).toNat]? =some (encN (t,m)):=by rw[<-f];exact Sl.at Q g
  have q:ob++aA [m]=aA [((L.length:Nat):Int)]++((L.take (k+1)).map fun x=>aA [x.2]).flatten:=by rw[eN g,f,a,qj]
  have Y:k+1<=L.length:=g;have j:L.length - (k+1) < L.length - k:=by omega
  have p:k < 4611686018427387904:=by omega
  have i:=e _ _ (O (Sl.lt h g));refine bri d ⟨Sl.lt h g,n,_,i,_,S,?_⟩;refine bS 8 (fun _=>.arr 3 1 ([m].map encI) 1) ?_;intro b2 B l2 U;refine useS (eM hP B _ [m] A ob J b (Sl.new (l:=[m]) (cap:=1) (U 0 rfl)) ss oo) [(1,1),(2,6)] ⟨bY _ oo oo _ _,aF aB _ _ _ _ _,tv⟩ ⟨cZ (by rfl) (by rfl),aQ aB (bF _ _ _ _),tv⟩ ?_;rintro u F' h0 n0 Z ⟨rfl,rfl,rfl,u2,c2,ad,rfl⟩;exact⟨⟨(k+1,ob++aA [m],c2,u2,B),Fz.t e l2,Y,q,ad⟩,j,leR [(6,9)] K M rfl ⟨tv,bY _ oo oo _ _,dY (.inr oo) (.inr oo),tv,aF aB _ _ _ _ _,tv⟩ ⟨cnt p,tv⟩ ⟨Fz.r B,dK (i':=1) (j':=9) (by rfl) (by rfl) (by rfl) (by rfl) rfl,rfl,cU aB,tv⟩⟩
 ·have d:¬(k:Int) < (L.length:Nat):=by omega
  have c:ob=pmot L:=by rw[a,pmot,ql oo]
  refine brj d ?_;exact clean [(3,6)] (.ret (.tup [])) G (wrM A J ob) 4 ⟨e,rfl,rfl,A,J,by rw[<-c];exact b,by rw[c]⟩ trivial rfl rfl (Out.bB_ok (o:=.ret (.tup [])) rfl) (es _ _ _) ⟨Fz.r G,cZ (by rfl) (by rfl),aQ aB (bF _ _ _ _),tv⟩
theorem ycy(u:PFun)(F:Fz)(k:Bool)(h j a i:Nat)(q:Bool)(m p b n:Nat)(w:Int)(s:List UInt8):
  Ct prog 170 [.agg (docS (.slice k 0 h j 2 a i) (.slice q 0 m p 6 b n) w s),.va (.ptr ⟨1,0,0,0,0⟩)] F (wrH false 0 []) 3 (wrL (aA [((a:Nat):Int),((b:Nat):Int)])):=by
 refine ctS func170 ?_;refine bS 4 (fun _=>.arr 3 1 ([((a:Nat):Int),((b:Nat):Int)].map encI) 2) ?_;intro B F1 y c;refine useS (eM u F1 _ [((a:Nat):Int),((b:Nat):Int)] false [] 0 (fun _=>rfl) (Sl.new (l:=[((a:Nat):Int),((b:Nat):Int)]) (cap:=2) (c 0 rfl)) ss ss) [(1,1),(2,2)] ⟨bY _ oo oo _ _,aF aB _ _ _ _ _,tv⟩ ⟨cZ (by rfl) (by rfl),aQ aB (bF _ _ _ _),tv⟩ ?_;rintro f A D n0 x ⟨rfl,rfl,rfl,g,e,d,rfl⟩;exact clean [(3,5)] (.ret (.tup [])) F1 (wrM g e _) 4 ⟨y,rfl,rfl,g,e,d,rfl⟩ trivial rfl rfl (Out.bB_ok (o:=.ret (.tup [])) rfl) (es _ _ _) ⟨Fz.r F1,dK (i':=1) (j':=5) (by rfl) (by rfl) (by rfl) (by rfl) rfl,cU aB,tv⟩
theorem ycw(A:PFun)(F:Fz)(h:Bool)(d f g e:Nat)(n:Bool)(i k m j:Nat)(w:Int)(s:List UInt8)(J:s.length<=1000000):
  Ct prog 167 [.agg (docS (.slice h 0 d f 2 g e) (.slice n 0 i k 6 m j) w s),.va (.ptr ⟨1,0,0,0,0⟩)] F (wrH false 0 []) 3 (wrL (aA [w,hgt w s])):=by
 have q:=oR F (.slice h 0 d f 2 g e) (.slice n 0 i k 6 m j) w s oo;have b:∃z,hgt w s=z:=⟨_,rfl⟩
 obtain⟨z,D⟩:=b;rw[D]at q ⊢;refine ctS func167 ?_;refine dwS (lk [0,1,2,3,4] (.alt 5 (.alt 6 (.alt 7 .done .nil) .nil) .nil)) [3] ?_;conv=>whnf
 repeat' ((conv=>whnf);first
  |refine⟨rfl,?_⟩
  |refine⟨Fz.r _,rfl,?_⟩
  |refine⟨Fz.r _,rfl,rfl,?_⟩
  |refine⟨⟨by simp,by simp⟩,?_⟩
  |fail)
 refine usePs q ?_
 repeat' ((conv=>whnf);first
  |refine⟨rfl,?_⟩
  |refine⟨Fz.r _,rfl,?_⟩
  |refine⟨Fz.r _,rfl,rfl,?_⟩
  |refine⟨⟨by simp,by simp⟩,?_⟩
  |fail)
 refine bS 4 (fun _=>.arr 3 1 ([w,z].map encI) 2) ?_;intro G F1 u a;refine useS (eM A F1 _ [w,z] false [] 0 (fun _=>rfl) (Sl.new (l:=[w,z]) (cap:=2) (a 0 rfl)) ss ss) [(1,1),(2,2)] ⟨bY _ oo oo _ _,aF aB _ _ _ _ _,tv⟩ ⟨cZ (by rfl) (by rfl),aQ aB (bF _ _ _ _),tv⟩ ?_;rintro x E I n0 B ⟨rfl,rfl,rfl,y,p,c,rfl⟩;refine⟨u,rfl,?_⟩;exact clean [(3,5)] (.ret (.tup [])) F1 (wrM y p _) 4 ⟨u,rfl,rfl,y,p,c,rfl⟩ trivial rfl rfl (Out.bB_ok (o:=.ret (.tup [])) rfl) (es _ _ _) ⟨Fz.r F1,dK (i':=1) (j':=5) (by rfl) (by rfl) (by rfl) (by rfl) rfl,cU aB,tv⟩
theorem ycx(A:PFun)(F:Fz)(m:Bool)(h j k i:Nat)(x:Bool)(n q u p:Nat)(w:Int)(s:List UInt8)(O:s.length<=1000000):
  Ct prog 169 [.agg (docS (.slice m 0 h j 2 k i) (.slice x 0 n q 6 u p) w s),.va (.ptr ⟨1,0,0,0,0⟩)] F (wrH false 0 []) 3 (wrL (aA [w,hgt w s]++(putSR s).1)):=by
 have B:=oR F (.slice m 0 h j 2 k i) (.slice x 0 n q 6 u p) w s oo;have c:∃z,hgt w s=z:=⟨_,rfl⟩
 obtain⟨z,K⟩:=c;rw[K]at B ⊢;refine ctS func169 ?_;refine dwS (lk [0,1,2,3,4] (.alt 5 (.alt 6 (.alt 7 .done .nil) .nil) .nil)) [3] ?_;conv=>whnf
 repeat' ((conv=>whnf);first
  |refine⟨rfl,?_⟩
  |refine⟨Fz.r _,rfl,?_⟩
  |refine⟨Fz.r _,rfl,rfl,?_⟩
  |refine⟨⟨by simp,by simp⟩,?_⟩
  |fail)
 refine usePs B ?_
 repeat' ((conv=>whnf);first
  |refine⟨rfl,?_⟩
  |refine⟨Fz.r _,rfl,?_⟩
  |refine⟨Fz.r _,rfl,rfl,?_⟩
  |refine⟨⟨by simp,by simp⟩,?_⟩
  |fail)
 refine bS 4 (fun _=>.arr 3 1 ([w,z].map encI) 2) ?_;intro M F1 D b;refine useS (eM A F1 _ [w,z] false [] 0 (fun _=>rfl) (Sl.new (l:=[w,z]) (cap:=2) (b 0 rfl)) ss ss) [(1,1),(2,2)] ⟨bY _ oo oo _ _,aF aB _ _ _ _ _,tv⟩ ⟨cZ (by rfl) (by rfl),aQ aB (bF _ _ _ _),tv⟩ ?_;rintro a G J n0 d ⟨rfl,rfl,rfl,L,I,f,rfl⟩;refine⟨D,rfl,?_⟩;conv=>whnf
 have e:=du [w,z];rw[show[w,z].length=2 from rfl]at e;refine useS (xT A F1 L s ([]++aA [w,z]) I f oo (by rw[qv];omega)) [(1,1),(2,5)] ⟨bY _ oo oo _ _,aF aB _ _ _ _ _,tv⟩ ⟨dK (i':=1) (j':=5) (by rfl) (by rfl) (by rfl) (by rfl) rfl,cU aB,tv⟩ ?_;rintro a G J n0 d ⟨rfl,rfl,rfl,E,y,g,rfl⟩;exact clean [(3,6)] (.ret (.tup [])) F1 (wrM E y _) 4 ⟨D,rfl,rfl,E,y,g,rfl⟩ trivial rfl rfl (Out.bB_ok (o:=.ret (.tup [])) rfl) (es _ _ _) ⟨Fz.r F1,dK (i':=1) (j':=6) (by rfl) (by rfl) (by rfl) (by rfl) rfl,cU aB,tv⟩
def pvals(K:List Cel):List UInt8:=aA [(K.length:Int)]++((K.zip (valsF K)).map fun x=>aA [x.1.row,x.1.col,x.2]).flatten
theorem vZ:∀(l d:List Cel) (o:List Int),(valsA l d o).length=l.length+o.length
 |[],d,o=>by simp[valsA]
 |c::r,d,o=>by rw[valsA,vZ,qb];simp only[qe,qu];omega
theorem ff(l:List Cel):(valsF l).length=l.length:=by rw[valsF,vZ,qu];rfl
theorem oW:∀(l:List (Cel×Int)),((l.map fun x=>aA [x.1.row,x.1.col,x.2]).flatten).length<=l.length*1000
 |[]=>by simp
 |x::r=>by
  have h1:=du [x.1.row,x.1.col,x.2];have a:=oW r;rw[show[x.1.row,x.1.col,x.2].length=3 from rfl]at h1;rw[qw,jm,qb,qe];omega
theorem uz(F:Fz)(x:Bool)(n q u p:Nat)(h:Bool)(f g e:Nat)(K:List Cel)(w:Int)(s:List UInt8)(B:Sl F 151 6 encK (.slice h 0 f g 6 K.length e) K)(E:K.length<=1000)(a:K.length<=e):
  Fo prog F 166 [.agg (docS (.slice x 0 n q 2 u p) (.slice h 0 f g 6 K.length e) w s)] (fun o m=>(o=.ret (.va .nilsl)/\K=[])\/(∃b c L d,o=.ret (.va (.slice false 0 b 0 1 K.length c))/\m b=some (.arr 3 1 L d)/\∀(k:Nat) (v:Int),(valsF K)[k]? =some v->L[0+(k:Int).toNat]? =some (encI v))):=by
 refine cK (Ai F x n q u p h f g e K w s B E a) ?_;rintro o m ⟨r,rfl,⟨A,rfl⟩ | ⟨G,U,V,rfl⟩⟩
 ·exact .inl ⟨rfl,A⟩
 ·obtain⟨S,O,R,Q,M,T,i,I,j,J,l⟩:=G;cases i
  rw[ff];refine .inr ⟨_,_,_,_,rfl,j rfl,fun k v D=>?_⟩;obtain⟨h1,y⟩:=qg.1 D;rw[<-y];exact Sl.at l h1
theorem ycv(hP:PFun)(F:Fz)(an:Bool)(ab ae al ac:Nat)(Z:Bool)(Y D B:Nat)(K:List Cel)(w:Int)(s:List UInt8)(hb:Sl F 151 6 encK (.slice Z 0 Y D 6 K.length B) K)(hl:K.length<=1000)(Q:K.length<=B):
  Ct prog 165 [.agg (docS (.slice an 0 ab ae 2 al ac) (.slice Z 0 Y D 6 K.length B) w s),.va (.ptr ⟨1,0,0,0,0⟩)] F (wrH false 0 []) 3 (wrL (pvals K)):=by
 have p:=fun F1 (A:Fz.le F F1)=>uz F1 an ab ae al ac Z Y D B K w s (hb.mono A) hl Q
 have U:K=[]->pvals K=[]++aA [((K.length:Nat):Int)]:=fun h=>by subst h;simp[pvals]
 have aq:=ff K;obtain⟨ay,av,ax,aw,ag,az,ah,J,ad,au,af⟩:=hb;cases ah
 refine ctS func165 ?_;refine bS 4 (fun _=>.arr 3 1 ([((K.length:Nat):Int)].map encI) 1) ?_;intro b1 F1 A L;refine useS (eM hP F1 _ [((K.length:Nat):Int)] false [] 0 (fun _=>rfl) (Sl.new (l:=[((K.length:Nat):Int)]) (cap:=1) (L 0 rfl)) ss ss) [(1,1),(2,2)] ⟨bY _ oo oo _ _,aF aB _ _ _ _ _,tv⟩ ⟨cZ (by rfl) (by rfl),aQ aB (bF _ _ _ _),tv⟩ ?_;rintro W F' h0 n0 ak ⟨rfl,rfl,rfl,u1,E,V,rfl⟩;refine useFs (p F1 A) ?_;rintro _ b l2 (⟨rfl,hK⟩ | ⟨vb,vc,vL,vr,rfl,ao,ap⟩)
 ·conv=>whnf
  refine aH hΘ (X:={ x:Nat // x=0 }) (fun x=>[(16,.va (.int .i64 x.1))]) (4::5::jr 17 23 [])
   (fun x=>[(0,.frz b),(1,wrC u1 1 6 E ([]++aA [((K.length:Nat):Int)])),(5,.gone),(6,gE 5 1 encB E ([]++aA [((K.length:Nat):Int)]))]) 7 (fun x=>0) ⟨0,rfl⟩
   (fun u y=>leI [(6,5)] u y rfl ⟨tv,bY _ oo oo _ _,tv,aF aB _ _ _ _ _,tv⟩ ⟨rfl,tv⟩ ⟨Fz.r b,dK (i':=1) (j':=5) (by rfl) (by rfl) (by rfl) (by rfl) rfl,cU aB,tv⟩) ?_
  rintro⟨k,rfl⟩ u y;refine br (fun g2=>absurd g2 dd) (fun _=>?_);exact clean [(3,6)] (.ret (.tup [])) b (wrM u1 E ([]++aA [((K.length:Nat):Int)])) 4 ⟨Fz.t A l2,rfl,rfl,u1,E,by rw[U hK];exact V,by rw[U hK]⟩ trivial rfl rfl (Out.bB_ok (o:=.ret (.tup [])) rfl) (es _ _ _) ⟨Fz.r b,cZ (by rfl) (by rfl),aQ aB (bF _ _ _ _),tv⟩
 ·conv=>whnf
  refine aH hΘ (X:={ x:Nat×List UInt8×Nat×Bool×Fz // Fz.le b x.2.2.2.2/\x.1<=K.length/\x.2.1=aA [((K.length:Nat):Int)]++(((K.zip (valsF K)).take x.1).map fun x=>aA [x.1.row,x.1.col,x.2]).flatten/\(x.2.2.2.1=false->x.2.1=[]) }) (fun x=>[(16,.va (.int .i64 x.1.1))]) (4::5::jr 17 23 [])
   (fun x=>[(0,.frz x.1.2.2.2.2),(1,wrC x.1.2.2.2.1 1 6 x.1.2.2.1 x.1.2.1),(3,docE4 (.slice an 0 ab ae 2 al ac) (.slice Z 0 Y D 6 K.length B) w s),(5,.gone),(6,gE 5 1 encB x.1.2.2.1 x.1.2.1)]) 7 (fun x=>K.length - x.1.1) ⟨(0,[]++aA [((K.length:Nat):Int)],E,u1,b),Fz.r b,by simpa using V⟩
   (fun u y=>leI [(6,5)] u y rfl ⟨tv,bY _ oo oo _ _,dY (.inr oo) (.inr oo),tv,aF aB _ _ _ _ _,tv⟩ ⟨rfl,tv⟩ ⟨Fz.r b,dK (i':=1) (j':=5) (by rfl) (by rfl) (by rfl) (by rfl) rfl,rfl,cU aB,tv⟩) ?_
  rintro⟨⟨k,ob,cb,ub,G⟩,q,hk,a,d⟩ u y;replace q:Fz.le b G:=q;replace hk:k<=K.length:=hk;replace a:ob=aA [((K.length:Nat):Int)]++(((K.zip (valsF K)).take k).map fun x=>aA [x.1.row,x.1.col,x.2]).flatten:=a;replace d:ub=false->ob=[]:=d;have a0:(K.zip (valsF K)).length=K.length:=by rw[qao,aq];omega
  have ar:ob.length<=100000000000:=by
   have h9:=oW ((K.zip (valsF K)).take k);have h8:=du [((K.length:Nat):Int)];rw[qk]at h9;rw[yi]at h8;rw[a,qb];omega
  by_cases g:k < K.length
  ·have n:(k:Int) < (K.length:Nat):=by omega
   have f:0<=(k:Int)/\(k:Int) < (K.length:Nat):=by omega
   have gv:k < (valsF K).length:=by omega
   have ai:∃c v,K[k]=c/\(valsF K)[k]=v:=⟨_,_,rfl,rfl⟩
   obtain⟨c,v,i,j⟩:=ai;have aa:ag[D+(k:Int).toNat]? =some (encK c):=by rw[<-i];exact Sl.at af g
   have I:vL[0+(k:Int).toNat]? =some (encI v):=by rw[<-j];exact ap k _ (qc gv)
   have T:ob++aA [c.row,c.col,v]=aA [((K.length:Nat):Int)]++(((K.zip (valsF K)).take (k+1)).map fun x=>aA [x.1.row,x.1.col,x.2]).flatten:=by
    have gz:k < (K.zip (valsF K)).length:=by omega
    rw[eN gz,qde,i,j,a,qj]
   have aj:k+1<=K.length:=g;have R:K.length - (k+1) < K.length - k:=by omega
   have S:k < 4611686018427387904:=by omega
   have O:=(Fz.t A (Fz.t l2 q)) _ _ (ad (Sl.lt J g));have m:=q _ _ ao;clear i j;refine bri n ⟨rfl,f,_,m,_,I,?_⟩;refine dwS (lk [0,1,2,3,4,5,6,7,8,9,10,11,12,13,14,15] (.alt 16 (.alt 17 .done .nil) .nil)) [3] ?_;conv=>whnf
   repeat' ((conv=>whnf);first
    |refine⟨Sl.lt J g,f,?_⟩
    |refine⟨_,O,?_⟩
    |refine⟨_,aa,?_⟩
    |refine⟨rfl,?_⟩
    |refine⟨Fz.r _,rfl,?_⟩
    |refine⟨Fz.r _,rfl,rfl,?_⟩
    |refine⟨⟨by simp,by simp⟩,?_⟩
    |fail)
   refine bS 7 (fun _=>.arr 3 1 ([c.row,c.col,v].map encI) 3) ?_;intro b2 G2 l3 M;refine useS (eM hP G2 _ [c.row,c.col,v] ub ob cb d (Sl.new (l:=[c.row,c.col,v]) (cap:=3) (M 0 rfl)) ss oo) [(1,1),(2,6)] ⟨bY _ oo oo _ _,aF aB _ _ _ _ _,tv⟩ ⟨cZ (by rfl) (by rfl),aQ aB (bF _ _ _ _),tv⟩ ?_;rintro W F' h0 n0 ak ⟨rfl,rfl,rfl,u2,c2,am,rfl⟩;refine⟨l3,rfl,?_⟩;exact⟨⟨(k+1,ob++aA [c.row,c.col,v],c2,u2,G2),Fz.t q l3,aj,T,am⟩,R,leR [(6,8)] u y rfl ⟨tv,bY _ oo oo _ _,dY (.inr oo) (.inr oo),tv,aF aB _ _ _ _ _,tv⟩ ⟨cnt S,tv⟩ ⟨Fz.r G2,dK (i':=1) (j':=8) (by rfl) (by rfl) (by rfl) (by rfl) rfl,rfl,cU aB,tv⟩⟩
  ·have n:¬(k:Int) < (K.length:Nat):=by omega
   have e:ob=pvals K:=by rw[a,pvals,ql oo]
   refine brj n ?_;exact clean [(3,6)] (.ret (.tup [])) G (wrM ub cb ob) 4 ⟨Fz.t A (Fz.t l2 q),rfl,rfl,ub,cb,by rw[<-e];exact d,by rw[e]⟩ trivial rfl rfl (Out.bB_ok (o:=.ret (.tup [])) rfl) (es _ _ _) ⟨Fz.r G,cZ (by rfl) (by rfl),aQ aB (bF _ _ _ _),tv⟩
theorem aC:Plain encK:=fun x=>⟨fun μ=>rfl,fun a b=>by
 simp only[encK,qh,qq,or_false]at b;rcases b with rfl | rfl | rfl | rfl | rfl | rfl<;>trivial⟩
theorem AO(F:Fz)(s:Bool)(n q p:Nat)(K:List Cel)(b:K≠[])(A:Sl F 151 6 encK (.slice s 0 n q 6 K.length p) K)(w:K.length<=1000):
  Ct prog 87 [.va (.slice s 0 n q 6 K.length p)] F [] 1
   (fun o _ y n0=>n0=2/\∃c,K.length<=c/\o=.ret (.va (.slice false 1 0 0 6 K.length c))/\y=[(1,gE 151 6 encK c K)]):=by
 obtain⟨G,B,E,D,h,i,k,d,e,f,g⟩:=A;cases k
 have l:0 < K.length:=qa3.2 b;have m:=Sl.lt d l;subst m;have a:=e rfl;rcases K with _ | ⟨x,r⟩
 ·exact absurd rfl b
 replace w:r.length+1<=1000:=w;refine ctS func87 ?_;refine brd dd ⟨151,h,i,a,f,(x::r).map encK,g,rfl,rfl,rfl,by show(0+((x::r).map encK).length)*48<=140737488355328;rw[qa,qe];omega,fun c' u=>?_⟩;have j:=u;clear u;exact clean [(1,2)] (.ret (.va (.slice false 1 0 0 6 (x::r).length c'))) F [(1,gE 151 6 encK c' (x::r))] 2 ⟨Fz.r F,rfl,c',by simpa using j,rfl,rfl⟩ ⟨rfl,(by first | rfl | (rw[qa];omega)),(by first | rfl | (rw[qa];omega)),.inr ⟨rfl,rfl,rfl,rfl⟩⟩ rfl rfl (Out.bB_ok (o:=.ret (.va (.slice false 1 0 0 6 (x::r).length c'))) rfl) ⟨aF aC _ _ _ _ _,tv⟩ ⟨Fz.r F,aQ aC (aZ _ (by rfl)),tv⟩
end Go.Proofs.YtfnkamphhpldcaaGreatDoor
namespace Go.Proofs.YtfnkamphhpldcaaGreatDoor
open Go Go.RowKit Sx Tryz
set_option maxRecDepth 100000 in
theorem B9(b g cap cells:Nat)(l:List UInt8)(w:World)(h0:l≠[])(c1:w.cell? ⟨b,1,none⟩=some (.slice (some ⟨g,0,none⟩) l.length cap))(hc:l.length<=cap)(hcs:l.length<=cells)(hm:l.length<=1000000000000000)
  (hsh:w.shape? g=some (5,cells))(hcell:∀j x,l[j]? =some x->w.cell? ⟨g,j,none⟩=some (.int .u8 x.toNat)):
  Calls prog 104 #[.pointer (some ⟨b,0,none⟩)] w fun e w'=>e=.returned (.string ⟨l.toArray⟩)/\w'=w.drew.freeze ⟨g,0,none⟩ l.length:=by
 have hl0:l.length≠0:=by simpa using h0
 have d1:w.drew.cell? ⟨b,1,none⟩=some (.slice (some ⟨g,0,none⟩) l.length cap):=c1
 have hSD:(Builtin.unsafeSliceData_ #[81] 238 #[.slice (some ⟨g,0,none⟩) l.length cap]).run prog w.drew=.ok (.pointer (some ⟨g,0,none⟩)) w.drew:=
  Lib.run_unsafeSliceData_row _ _ _ _ _ _ oo
 have hUS:(Builtin.unsafeString_ #[238,3] 9 #[.pointer (some ⟨g,0,none⟩),.int .i64 l.length]).run prog w.drew=.ok (.string ⟨l.toArray⟩) (w.drew.freeze ⟨g,0,none⟩ l.length):=by
  refine Lib.run_unsafeString_row w.drew 238 3 9 5 underlying238 (by kernel_rfl) g cells hsh l h0 hcs oo ?_;intro j x hx;rw[addr_add,q9];exact hcell j x hx
 go_enter func104,Tryz.ntmps104
 go_wp2
 go_region
 all_goals(go_wp2;go_ret;exact⟨rfl,rfl⟩)
theorem Sat.trash{C:Ctx}{ρ:Rho}{h:Hp}{nx:Nat}{w a:World}(s:Sat C ρ h nx w){i:Nat}{e:Ent}(g:lget h i=some e)(u:e.plain=true)(p:e.has 0)(q:∀k,e.has k->k=0){f:Obj}(m:a.os=w.os)(B:a.tape=w.tape)(A:a.output=w.output)(n:a.heap.size=w.heap.size)
  (c:a.heap[ρ i 0]? =some f)(d:∀b,b≠ρ i 0->a.heap[b]? =w.heap[b]?):Sat C ρ (lput (lput h i (.one (.obj f))) i .gone) nx a:=by
 have y:=s.lt i _ g;have j:=s.ne0 g u;refine Sat.forget (s.upd (e':=.one (.obj f)) 0 g u rfl p ?_ f ?_ rfl trivial m B A n c d) y j
 ·intro o;constructor
  ·rintro rfl;exact p
  ·intro h;exact q o h
 ·intro o l x;exact absurd (q o x) l
theorem B8{h:Hp}{nx:Nat}{K:Out->Hp->Nat->Prop}{i j c:Nat}{u:Bool}{l:List UInt8}(Y:l≠[])(hm:l.length<=1000000000000000){W X:Ent}(he:lget h i=some W)(E:W=wrC u i j c l)(M:lget h j=some X)(G:X=gE 5 1 encB c l)
  (O:∀D,K (.ret (.va (.str l))) (lput (lput h j (.one (.obj D))) j .gone) nx):za6 prog 104 [.va (.ptr ⟨i,0,0,0,0⟩)] h nx K:=by
 subst E;subst G;obtain⟨d,f,rfl⟩:=List.exists_cons_of_ne_nil Y;unfold za6;intro C ρ w vs S V hb;refine⟨Sx.enters_of func104 rfl dd,?_⟩
 match vs,V with
 |[v],V=>
  have hv:v=.pointer (some ⟨ρ i 0,0,none⟩):=by
   have h1:=V.1;simpa[SV.rel,SA.den,Pl.addr]using h1
  subst hv;obtain⟨o,ho,T⟩:=S.blk i _ he 0 (by cases u<;>rfl);have B:RowAt w (ρ i 0) 174 ([wrA u i,gA 1 j c (d::f)].map (SA.den ρ)):=⟨o,ho,by cases u<;>exact T⟩
  have c1:w.cell? ⟨ρ i 0,1,none⟩=some (.slice (some ⟨ρ j 0,0,none⟩) (d::f).length c):=by
   rw[B.cell];simp[gA,SA.den]
  obtain⟨o2,y,A⟩:=S.blk j _ M 0 ⟨rfl,rfl⟩;obtain⟨k1,k2,g,k3,k4⟩:=A;have n:RowAt w (ρ j 0) 5 ((((d::f).map encB).flatten).map (SA.den ρ)++g):=⟨o2,y,k4⟩
  have q:(((d::f).map encB).flatten).map (SA.den ρ)=(d::f).map fun x=>Value.int .u8 x.toNat:=by
   have h1:((d::f).map encB).flatten=(d::f).map fun b=>SA.int .u8 b.toNat:=jE (d::f)
   rw[h1,jq];rfl
  have m:∀k x,(d::f)[k]? =some x->w.cell? ⟨ρ j 0,k,none⟩=some (.int .u8 x.toNat):=by
   intro k x Z;have Q:k < ((d::f).map fun x=>Value.int .u8 x.toNat).length:=by rw[qa];exact(qg.1 Z).1
   rw[n.cell,q,jo Q,qt,Z];rfl
  obtain⟨fr,aa,U⟩:=k4
  have p:∃a,w.shape? (ρ j 0)=some (5,a)/\(d::f).length<=a:=by
   refine⟨((((d::f).map encB).flatten).map (SA.den ρ)++g).length,?_,?_⟩
   ·simp only[World.shape?,y,U];rfl
   ·rw[q,qb,qa];omega
  obtain⟨a,p,J⟩:=p;have s:=S.blt ⟨_,M,⟨rfl,rfl⟩⟩;have hc:(d::f).length<=c:=by rw[qa]at k2;exact k2
  refine(B9 (ρ i 0) (ρ j 0) c a (d::f) w Y c1 hc J hm p m).mono ?_;rintro e w' ⟨rfl,rfl⟩
  have L:∃D,(w.drew.freeze ⟨ρ j 0,0,none⟩ (d::f).length).heap[ρ j 0]? =some D:=by
   refine⟨_,qby ?_⟩;show ρ j 0 < _;simp only[World.freeze,qe,Nat.add_eq_zero_iff,Nat.succ_ne_self,and_false,if_false,Array.size_modify];exact s
  obtain⟨D,R⟩:=L;refine⟨.ret (.va (.str (d::f))),_,nx,ρ,O D,⟨_,rfl,rfl⟩,?_,fun _ _=>rfl,qi _,tv⟩;refine Sat.trash S.drew M rfl ⟨rfl,rfl⟩ (fun k O=>O.2) ?_ ?_ ?_ ?_ R ?_
  ·unfold World.freeze;split<;>rfl
  ·unfold World.freeze;split<;>rfl
  ·unfold World.freeze;split<;>rfl
  ·unfold World.freeze;split<;>simp
  ·intro b I;unfold World.freeze;split
   ·rfl
   ·simp[qdq,Ne.symm I]
end Go.Proofs.YtfnkamphhpldcaaGreatDoor
namespace Go.Proofs.YtfnkamphhpldcaaGreatDoor
open Go Sx Tryz
set_option maxRecDepth 100000
def propM:List MapEntry:=[⟨.int .i64 1,.func (.func 158) #[] #[],0⟩,⟨.int .i64 2,.func (.func 161) #[] #[],1⟩,⟨.int .i64 3,.func (.func 162) #[] #[],2⟩,⟨.int .i64 4,.func (.func 164) #[] #[],3⟩,
 ⟨.int .i64 5,.func (.func 165) #[] #[],4⟩,⟨.int .i64 6,.func (.func 167) #[] #[],5⟩,⟨.int .i64 7,.func (.func 169) #[] #[],6⟩,⟨.int .i64 8,.func (.func 170) #[] #[],7⟩]
theorem BK(F:Fz):Ct prog 103 [] F [] 1 (fun o a b n0=>F=a/\n0=2/\o=.ret (.va (.map 1 0))/\b=[(1,.one (.obj (.map ⟨propM⟩ 8)))]):=by
 refine ctS func103 ?_;exact clean [(1,1)] (.ret (.va (.map 1 0))) F [(1,.one (.obj (.map ⟨propM⟩ 8)))] 2 ⟨Fz.r F,rfl,rfl,rfl,rfl⟩ rfl rfl rfl (Out.bB_ok (o:=.ret (.va (.map 1 0))) rfl) ⟨tv,tv⟩ ⟨Fz.r F,rfl,tv⟩
def keepQ(b:Bool)(c:Cel):Bool:=c.sum==b
theorem uG{α:Type}(q:α->Bool):∀(l:List α) (n:Nat),(idxG q l n= -1/\l.filter q=l)\/∃i x,i < l.length/\idxG q l n=((n+i:Nat):Int)/\(l.take i).filter q=l.take i/\l[i]? =some x/\q x=false
 |[],n=>.inl ⟨rfl,rfl⟩
 |x::r,n=>by
  rw[idxG];split
  ·rename_i h;exact .inr ⟨0,x,by simp,by simp,by simp,rfl,h⟩
  ·rename_i h;have b:q x=true:=by simpa using h
   rcases uG q r (n+1)with⟨h1,a⟩ | ⟨i,y,h1,a,c,d,e⟩
   ·exact .inl ⟨h1,by simp[b,a]⟩
   ·exact .inr ⟨i+1,y,by simp[h1],by rw[a];congr 1;omega,by simp[b,c],by simpa using d,e⟩
theorem uV(F:Fz)(x:Cel)(b:Bool)(j:Nat)(l:F j=some (.cells 4 [.lit b])):Fo prog F 225 [.agg (encK x),.va (.ptr (fp j))] (fun o i=>o=.ret (.va (.bool (!keepQ b x)))/\i=F):=by
 obtain⟨f,e,d,c,g,left⟩:=x
 have fin:∀(z:Bool) (a:SA) (h:Hp) (nx:Nat),(!keepQ b ⟨f,e,d,c,g,left⟩)=z->atomE (.bool z) (a.ren (resP h))->lget h 0=some (.frz F)->Cln 1 (FoK F fun o i=>o=.ret (.va (.bool (!keepQ b ⟨f,e,d,c,g,left⟩)))/\i=F) (.ret (.va a)) h nx:=by
  intro z a h nx p m k;subst p;exact endPu k (Fz.r F) m rfl
 have n:∀z,keepQ b ⟨f,e,d,c,g,left⟩=z->keepQ b ⟨f,e,d,c,g,left⟩=(d==b):=fun _ _=>rfl
 refine foS func225 ?_;refine⟨_,l,?_⟩;exact fin (d != b) _ _ _ (by rw[n _ rfl];cases d<;>cases b<;>rfl) rfl rfl
theorem xV(F:Fz)(M:SA)(l:List Cel)(b:Bool)(q:Nat)(R:Sl F 151 6 encK M l)(Z:l.length < 1000000)(Q:F q=some (.cells 4 [.lit b])):
  Fo prog F 220 [.va M,.va (.fn (.func 225) [fp q])] (fun o n=>o=.ret (.va (.int .i64 (idxG (keepQ b) l 0)))/\n=F):=by
 have fin:∀(x:Int) (h:Hp) (nx:Nat),idxG (keepQ b) l 0=x->lget h 0=some (.frz F)->
   Cln 1 (FoK F fun o n=>o=.ret (.va (.int .i64 (idxG (keepQ b) l 0)))/\n=F) (.ret (.va (.int .i64 x))) h nx:=by
  intro x h nx Y O;exact endPu O (Fz.r F) (oi Y) rfl
 obtain⟨V,T,D,U,B,W,rfl,f,y,S,A⟩:=R;refine foS func220 ?_;conv=>whnf
 refine aH hΘ (X:={ k:Nat // k<=l.length/\idxG (keepQ b) l 0=idxG (keepQ b) (l.drop k) k }) (fun k=>[(8,.va (.int .i64 k.1))]) (4::5::jr 9 10 []) (fz fun _=>F) 1 (fun k=>l.length - k.1) ⟨0,by simp⟩
  (fun u w=>le0 u w rfl (Fz.r F) rfl ⟨rfl,tv⟩) ?_
 rintro⟨k,L,c⟩ u w;replace L:k<=l.length:=L;replace c:idxG (keepQ b) l 0=idxG (keepQ b) (l.drop k) k:=c;by_cases g:k < l.length
 ·have K:(k:Int) < (l.length:Nat):=by omega
  have j:0<=(k:Int)/\(k:Int) < (l.length:Nat):=by omega
  have G:∃x,l[k]=x:=⟨_,rfl⟩
  obtain⟨x,e⟩:=G;have E:B[D+(k:Int).toNat]? =some (encK x):=by rw[<-e];exact Sl.at A g
  have a:=uV F x b q Q;rw[oS _ l k g,e]at c;have J:k+1<=l.length:=g;have i:l.length - (k+1) < l.length - k:=by omega
  have m:k < 4611686018427387904:=by omega
  have d:∃p,keepQ b x=p:=⟨_,rfl⟩
  obtain⟨p,d⟩:=d;rw[d]at c a;clear e;refine bri K ⟨Sl.lt f g,j,_,y (Sl.lt f g),_,E,?_⟩;refine usePs a ?_;rcases p with _ | _
  ·refine br (fun _=>?_) (fun s=>absurd s dd);exact fin _ _ _ (c.trans (if_pos rfl)) rfl
  ·refine br (fun s=>absurd s dd) (fun _=>?_);rw[if_neg dd]at c;exact⟨⟨k+1,J,c⟩,i,lr0 u w rfl (Fz.r F) rfl ⟨cnt m,tv⟩⟩
 ·have I:¬(k:Int) < (l.length:Nat):=by omega
  rw[yg oo]at c;refine brj I ?_;exact fin _ _ _ c rfl
