import Derived.Test.YtfnkamphhpldcaaGreatDoorK33
import Derived.Test.YtfnkamphhpldcaaGreatDoorK22
import Derived.Test.YtfnkamphhpldcaaGreatDoorK31
import Derived.Test.YtfnkamphhpldcaaGreatDoorK26
set_option maxHeartbeats 64000000
namespace Go.Proofs.YtfnkamphhpldcaaGreatDoor
open Go Sx Tryz
set_option maxRecDepth 100000
def exCl:List Kp:=[(1,[(1,0),(2,0)]),(2,[(6,0)]),(3,[]),(4,[]),(5,[]),(6,[]),(7,[]),(8,[])]
theorem uq:∀x∈exCl,x.2.length<=2:=by decide
def exV:List Int:=[2,1,0,2,0,1,6,0,0,0,0,0,0,0]
theorem ycs(F:Fz)(s src i:List UInt8)(y:s.length=81)(J:crtOk ⟨src,i,2,exCl⟩=true)
  (r1:getS s 0=(src,33,0))(r2:getS s 33=(i,66,0))(r3:getI s 66=(2,67,0))(j:∀k:Nat,k < 14->getI s (67+(k:Int))=(exV[k]?.getD 0,68+(k:Int),0)):
  Ct prog 82 [.va (.ptr ⟨1,0,0,0,0⟩)] F [(1,crd s 0)] 2
   (fun o f g n0=>n0=2/\g=[(1,crd s s.length)]/\∃sk,o=.ret (.tup [.agg (crtS ⟨src,i,2,exCl⟩ sk),.va .nilif])/\ClsAt f sk exCl):=by
 have h:s.length<=1000000000000000000:=by omega
 unfold Ct;refine Bu hΘ func82 rfl dd _ _ rfl rfl rfl ?_;refine ybm ?_;refine ef hΘ _ _ _ ?_;refine ybm ?_;refine ET hΘ rfl rfl rfl rfl ?_;refine⟨_,_,rfl,?_⟩;refine ef hΘ _ _ _ ?_;refine useS (ri F s 0 33 src h ⟨by decide,by decide⟩ r1) [(1,1)] ⟨dj s _,tv⟩ ⟨rfl,tv⟩ ?_;rintro b f g n0 a ⟨rfl,rfl,rfl,rfl⟩;refine useS (ri F s 33 66 i h ⟨by decide,by decide⟩ r2) [(1,1)] ⟨dj s _,tv⟩ ⟨rfl,tv⟩ ?_;rintro b f g n0 a ⟨rfl,rfl,rfl,rfl⟩;refine useS (eh F s 66 2 67 h ⟨by decide,by decide⟩ r3) [(1,1)] ⟨dj s _,tv⟩ ⟨rfl,tv⟩ ?_;rintro b f g n0 a ⟨rfl,rfl,rfl,rfl⟩;conv=>whnf
 refine cR hΘ 8 ?_;conv=>whnf
 refine bre dd ?_;refine useS (eh F s 67 2 68 h ⟨by decide,by decide⟩ (j 0 dd)) [(1,1)] ⟨dj s _,tv⟩ ⟨rfl,tv⟩ ?_;rintro b f g n0 a ⟨rfl,rfl,rfl,rfl⟩;clear a;refine gae dd ?_;refine useFt (eP F _ _) ?_;rintro _ _ e ⟨rfl,⟨hb,rfl⟩ | ⟨hb,rfl⟩⟩
 rotate_left
 ·exact absurd hb dd
 clear hb e;conv=>whnf
 refine cR hΘ 2 ?_;refine bre dd ?_;refine dwS (lk [0,1,2,4] (.alt 3 (.alt 5 (.alt 6 (.alt 7 (.alt 8 (.look 9 (.last 10 .done)) .nil) .nil) .nil) .nil) .nil)) [4] ?_;refine⟨rfl,?_⟩;refine useS (eh F s 68 1 69 h ⟨by decide,by decide⟩ (j 1 dd)) [(1,1)] ⟨dj s _,tv⟩ ⟨rfl,tv⟩ ?_;rintro b f g n0 a ⟨rfl,rfl,rfl,rfl⟩;clear a;refine⟨Fz.r F,rfl,?_⟩;refine useS (eh F s 69 0 70 h ⟨by decide,by decide⟩ (j 2 dd)) [(1,1)] ⟨dj s _,tv⟩ ⟨rfl,tv⟩ ?_;rintro b f g n0 a ⟨rfl,rfl,rfl,rfl⟩;clear a;refine⟨Fz.r F,rfl,Fz.r F,rfl,Fz.r F,rfl,nb rfl,[enc (1,0)],rfl,rfl,rfl,by show 1*16<=140737488355328;omega,fun O q=>?_⟩;clear q;refine⟨Fz.r F,rfl,?_⟩;conv=>whnf
 refine sr_go hΘ ?_;refine bre dd ?_;refine dwS (lk [0,1,2,4] (.alt 3 (.alt 5 (.alt 6 (.alt 7 (.alt 8 (.look 9 (.last 10 .done)) .nil) .nil) .nil) .nil) .nil)) [4] ?_;refine⟨rfl,?_⟩;refine useS (eh F s 70 2 71 h ⟨by decide,by decide⟩ (j 3 dd)) [(1,1)] ⟨dj s _,tv⟩ ⟨rfl,tv⟩ ?_;rintro b f g n0 a ⟨rfl,rfl,rfl,rfl⟩;clear a;refine⟨Fz.r F,rfl,?_⟩;refine useS (eh F s 71 0 72 h ⟨by decide,by decide⟩ (j 4 dd)) [(1,1)] ⟨dj s _,tv⟩ ⟨rfl,tv⟩ ?_;rintro b f g n0 a ⟨rfl,rfl,rfl,rfl⟩;clear a;refine⟨Fz.r F,rfl,Fz.r F,rfl,Fz.r F,rfl,nb rfl,[enc (2,0)],rfl,rfl,rfl,rfl,nb rfl,fun n q=>?_⟩;clear q;refine⟨Fz.r F,rfl,?_⟩;conv=>whnf
 refine sr_go hΘ ?_;refine brd dd ⟨nb rfl,_,rfl,rfl,rfl,by show 1*32<=140737488355328;omega,fun T c=>?_⟩;clear c;conv=>whnf
 refine sr_go hΘ ?_;conv=>whnf
 refine bre dd ?_;refine useS (eh F s 72 1 73 h ⟨by decide,by decide⟩ (j 5 dd)) [(1,1)] ⟨dj s _,tv⟩ ⟨rfl,tv⟩ ?_;rintro b f g n0 a ⟨rfl,rfl,rfl,rfl⟩;clear a;refine gae dd ?_;refine useFt (eP F _ _) ?_;rintro _ _ e ⟨rfl,⟨hb,rfl⟩ | ⟨hb,rfl⟩⟩
 rotate_left
 ·exact absurd hb dd
 clear hb e;conv=>whnf
 refine cR hΘ 1 ?_;refine bre dd ?_;refine dwS (lk [0,1,2,4] (.alt 3 (.alt 5 (.alt 6 (.alt 7 (.alt 8 (.look 9 (.last 10 .done)) .nil) .nil) .nil) .nil) .nil)) [11] ?_;refine⟨rfl,?_⟩;refine useS (eh F s 73 6 74 h ⟨by decide,by decide⟩ (j 6 dd)) [(1,1)] ⟨dj s _,tv⟩ ⟨rfl,tv⟩ ?_;rintro b f g n0 a ⟨rfl,rfl,rfl,rfl⟩;clear a;refine⟨Fz.r F,rfl,?_⟩;refine useS (eh F s 74 0 75 h ⟨by decide,by decide⟩ (j 7 dd)) [(1,1)] ⟨dj s _,tv⟩ ⟨rfl,tv⟩ ?_;rintro b f g n0 a ⟨rfl,rfl,rfl,rfl⟩;clear a;refine⟨Fz.r F,rfl,Fz.r F,rfl,Fz.r F,rfl,nb rfl,[enc (6,0)],rfl,rfl,rfl,by show 1*16<=140737488355328;omega,fun p q=>?_⟩;clear q;refine⟨Fz.r F,rfl,?_⟩;conv=>whnf
 refine sr_go hΘ ?_;refine brd dd ⟨nb rfl,_,rfl,rfl,rfl,rfl,nb rfl,fun U c=>?_⟩;clear c;conv=>whnf
 refine sr_go hΘ ?_;conv=>whnf
 refine bre dd ?_;refine useS (eh F s 75 0 76 h ⟨by decide,by decide⟩ (j 8 dd)) [(1,1)] ⟨dj s _,tv⟩ ⟨rfl,tv⟩ ?_;rintro b f g n0 a ⟨rfl,rfl,rfl,rfl⟩;clear a;refine gae dd ?_;refine useFt (eP F _ _) ?_;rintro _ _ e ⟨rfl,⟨hb,rfl⟩ | ⟨hb,rfl⟩⟩
 rotate_left
 ·exact absurd hb dd
 clear hb e;conv=>whnf
 refine cR hΘ 0 ?_;refine brd dd ⟨nb rfl,_,rfl,rfl,rfl,rfl,nb rfl,fun V c=>?_⟩;clear c;conv=>whnf
 refine sr_go hΘ ?_;conv=>whnf
 refine bre dd ?_;refine useS (eh F s 76 0 77 h ⟨by decide,by decide⟩ (j 9 dd)) [(1,1)] ⟨dj s _,tv⟩ ⟨rfl,tv⟩ ?_;rintro b f g n0 a ⟨rfl,rfl,rfl,rfl⟩;clear a;refine gae dd ?_;refine useFt (eP F _ _) ?_;rintro _ _ e ⟨rfl,⟨hb,rfl⟩ | ⟨hb,rfl⟩⟩
 rotate_left
 ·exact absurd hb dd
 clear hb e;conv=>whnf
 refine cR hΘ 0 ?_;refine brd dd ⟨nb rfl,_,rfl,rfl,rfl,rfl,nb rfl,fun W c=>?_⟩;clear c;conv=>whnf
 refine sr_go hΘ ?_;conv=>whnf
 refine bre dd ?_;refine useS (eh F s 77 0 78 h ⟨by decide,by decide⟩ (j 10 dd)) [(1,1)] ⟨dj s _,tv⟩ ⟨rfl,tv⟩ ?_;rintro b f g n0 a ⟨rfl,rfl,rfl,rfl⟩;clear a;refine gae dd ?_;refine useFt (eP F _ _) ?_;rintro _ _ e ⟨rfl,⟨hb,rfl⟩ | ⟨hb,rfl⟩⟩
 rotate_left
 ·exact absurd hb dd
 clear hb e;conv=>whnf
 refine cR hΘ 0 ?_;refine brd dd ⟨nb rfl,_,rfl,rfl,rfl,rfl,nb rfl,fun X c=>?_⟩;clear c;conv=>whnf
 refine sr_go hΘ ?_;conv=>whnf
 refine bre dd ?_;refine useS (eh F s 78 0 79 h ⟨by decide,by decide⟩ (j 11 dd)) [(1,1)] ⟨dj s _,tv⟩ ⟨rfl,tv⟩ ?_;rintro b f g n0 a ⟨rfl,rfl,rfl,rfl⟩;clear a;refine gae dd ?_;refine useFt (eP F _ _) ?_;rintro _ _ e ⟨rfl,⟨hb,rfl⟩ | ⟨hb,rfl⟩⟩
 rotate_left
 ·exact absurd hb dd
 clear hb e;conv=>whnf
 refine cR hΘ 0 ?_;refine brd dd ⟨nb rfl,_,rfl,rfl,rfl,rfl,nb rfl,fun Y c=>?_⟩;clear c;conv=>whnf
 refine sr_go hΘ ?_;conv=>whnf
 refine bre dd ?_;refine useS (eh F s 79 0 80 h ⟨by decide,by decide⟩ (j 12 dd)) [(1,1)] ⟨dj s _,tv⟩ ⟨rfl,tv⟩ ?_;rintro b f g n0 a ⟨rfl,rfl,rfl,rfl⟩;clear a;refine gae dd ?_;refine useFt (eP F _ _) ?_;rintro _ _ e ⟨rfl,⟨hb,rfl⟩ | ⟨hb,rfl⟩⟩
 rotate_left
 ·exact absurd hb dd
 clear hb e;conv=>whnf
 refine cR hΘ 0 ?_;refine brd dd ⟨nb rfl,_,rfl,rfl,rfl,rfl,nb rfl,fun Z c=>?_⟩;clear c;conv=>whnf
 refine sr_go hΘ ?_;conv=>whnf
 refine bre dd ?_;refine useS (eh F s 80 0 81 h ⟨by decide,by decide⟩ (j 13 dd)) [(1,1)] ⟨dj s _,tv⟩ ⟨rfl,tv⟩ ?_;rintro b f g n0 a ⟨rfl,rfl,rfl,rfl⟩;clear a;refine gae dd ?_;refine useFt (eP F _ _) ?_;rintro _ _ e ⟨rfl,⟨hb,rfl⟩ | ⟨hb,rfl⟩⟩
 rotate_left
 ·exact absurd hb dd
 clear hb e;conv=>whnf
 refine cR hΘ 0 ?_;refine brd dd ⟨nb rfl,_,rfl,rfl,rfl,rfl,nb rfl,fun m c=>?_⟩;clear c;conv=>whnf
 refine sr_go hΘ ?_;refine brd dd ?_;refine dwS (lk [0,1,2,3,4,5,6,7,8,9] (.alt 10 (.alt 11 .done .nil) .nil)) [1] ?_;refine⟨rfl,rfl,Fz.r F,rfl,?_⟩;refine useFt (eP F _ _) ?_;rintro _ _ e ⟨rfl,⟨hb,rfl⟩ | ⟨hb,rfl⟩⟩
 rotate_left
 ·exact absurd hb (by rw[y];decide)
 clear hb e;refine⟨Fz.r F,rfl,?_⟩;refine bM 8 (fun _=>.arr 56 2 ([(1,0),(2,0)].map enc) n) ?_;intro S F1 l1 E;refine bM 13 (fun _=>.arr 56 2 ([(6,0)].map enc) p) ?_;intro bB F2 Q G;refine swapC 33 (.arr 52 2 [[.int .i64 1,.slice false 8 0 0 2 2 n],[.int .i64 2,.slice false 13 0 0 2 1 p],[.int .i64 3,.slice true 0 0 0 2 0 0],[.int .i64 4,.slice true 0 0 0 2 0 0],[.int .i64 5,.slice true 0 0 0 2 0 0],[.int .i64 6,.slice true 0 0 0 2 0 0],[.int .i64 7,.slice true 0 0 0 2 0 0],[.int .i64 8,.slice true 0 0 0 2 0 0]] m) rfl (p9 rfl (by show∀x∈(_:List (List SA)),x.length=2;simp) (fun _=>rfl)) (SB.bB_ok rfl) ?_;refine bM 33 (fun _=>.arr 52 2 [[.int .i64 1,.slice false 0 (S 0) 0 2 2 n],[.int .i64 2,.slice false 0 (bB 0) 0 2 1 p],[.int .i64 3,.slice true 0 0 0 2 0 0],[.int .i64 4,.slice true 0 0 0 2 0 0],[.int .i64 5,.slice true 0 0 0 2 0 0],[.int .i64 6,.slice true 0 0 0 2 0 0],[.int .i64 7,.slice true 0 0 0 2 0 0],[.int .i64 8,.slice true 0 0 0 2 0 0]] m) ?_;intro B M L I
 have w:ClsAt M (.slice false 0 (B 0) 0 2 8 m) exCl:=by
  have hA:=L _ _ (Q _ _ (E 0 rfl));have hB:=L _ _ (G 0 rfl);refine SlR.new (l:=exCl) (I 0 rfl) rfl fun k x d=>?_
  match k,d with
  |0,d=>cases d;exact⟨_,rfl,_,rfl,Sl.new (l:=[(1,0),(2,0)]) hA⟩
  |1,d=>cases d;exact⟨_,rfl,_,rfl,Sl.new (l:=[(6,0)]) hB⟩
  |2,d=>cases d;exact⟨_,rfl,_,rfl,Sl.nil⟩
  |3,d=>cases d;exact⟨_,rfl,_,rfl,Sl.nil⟩
  |4,d=>cases d;exact⟨_,rfl,_,rfl,Sl.nil⟩
  |5,d=>cases d;exact⟨_,rfl,_,rfl,Sl.nil⟩
  |6,d=>cases d;exact⟨_,rfl,_,rfl,Sl.nil⟩
  |7,d=>cases d;exact⟨_,rfl,_,rfl,Sl.nil⟩
  |k+8,d=>cases d
 have u:=gP M _ ⟨src,i,2,exCl⟩ w (by intro x d;have:=uq x d;omega) (by show exCl.length < 1000000;decide);rw[J]at u;refine useFs u ?_;rintro _ A R rfl;refine useFt (eP A true _) ?_;rintro _ _ e ⟨rfl,⟨hb,rfl⟩ | ⟨hb,rfl⟩⟩
 rotate_left
 ·cases hb
 clear hb e;refine⟨rfl,Bw 2 3 ?_⟩;conv=>whnf
 have K:=Fz.t l1 (Fz.t Q (Fz.t L R));have D:SB.cells 139 [.str s,.int .i64 81]=SB.cells 139 [.str s,.int .i64 (s.length:Int)]:=by rw[y];rfl
 exact clean [] (.ret (.tup [.agg (crtS ⟨src,i,2,exCl⟩ (.slice false 0 (B 0) 0 2 8 m)),.va .nilif])) A [(1,crd s s.length)] 2 ⟨K,rfl,rfl,_,rfl,KpsAt.up w R⟩ ⟨rfl,rfl,tv⟩ rfl rfl (Out.bB_ok (o:=.ret (.tup [.agg (crtS ⟨src,i,2,exCl⟩ (.slice false 0 (B 0) 0 2 8 m)),.va .nilif])) rfl) ⟨dj s _,tv⟩ ⟨Fz.r A,D,tv⟩
theorem yW(F:Fz)(s src a:List UInt8)(e:s.length=81)(d:crtOk ⟨src,a,2,exCl⟩=true)
  (p:getS s 0=(src,33,0))(q:getS s 33=(a,66,0))(u:getI s 66=(2,67,0))(w:∀k:Nat,k < 14->getI s (67+(k:Int))=(exV[k]?.getD 0,68+(k:Int),0)):
  Fo prog F 36 [.va (.str s)] (fun o h=>∃sk,o=.ret (.tup [.agg (crtS ⟨src,a,2,exCl⟩ sk),.va (.int .i64 0)])/\ClsAt h sk exCl):=by
 have b:=ycs F s src a e d p q u w;refine foS func36 ?_;refine useS b [(1,2)] ⟨dj s _,tv⟩ ⟨rfl,tv⟩ ?_;rintro g F1 x n0 n ⟨rfl,rfl,sk,rfl,f⟩;have c:=f;obtain⟨m,i,l,j,E,G,rfl,y,A,B,D⟩:=f;refine dwS (.look 0 (.look 1 (.alt 2 (.alt 3 (.look 4 .done) .nil) .nil))) [3] ?_;refine⟨rfl,?_⟩;refine usePs (BN F1) ?_;refine⟨Fz.r F1,rfl,Fz.r F1,rfl,?_⟩;exact endFs (.ret (.tup [.agg (crtS ⟨src,a,2,exCl⟩ (.slice m 0 i l 2 exCl.length j)),.va (.int .i64 0)])) n ⟨_,rfl,c⟩
def force{β:Type}(n:Nat)(k:Nat->β):β:=match n with
 |0=>k 0
 |m+1=>k (m+1)
variable {β:Type}
theorem force_eq(n:Nat)(k:Nat->β):force n k=k n:=by cases n<;>rfl
def kP{β:Type}:List Nat->(List Nat->β)->β
 |[],k=>k []
 |x::r,k=>force x fun y=>kP r fun l=>k (y::l)
theorem o7{β:Type}:∀(l:List Nat) (k:List Nat->β),kP l k=k l
 |[],_=>rfl
 |x::r,k=>by rw[kP,force_eq,o7 r]
def fW{β:Type}(v:W8)(k:W8->β):β:=force v.a fun a=>force v.b fun b=>force v.c fun c=>force v.d fun d=>force v.e fun e=>force v.f fun f=>force v.g fun g=>force v.h fun h=>k ⟨a,b,c,d,e,f,g,h⟩
theorem fW_eq(v:W8)(k:W8->β):fW v k=k v:=by simp only[fW,force_eq]
def nx16(a b c d:Nat):Nat:=(a+(mix b [7,18] 0^^^b / 8)+c+(mix d [17,19] 0^^^d / 1024)) % 4294967296
def nG{β:Type}:List Nat->List Nat->W8->(W8->β)->β
 |[],_,v,k=>k v
 |c::r,w,v,k=>force (nx16 (at0 w 0) (at0 w 1) (at0 w 9) (at0 w 14)) fun x=>kP (w.drop 1++[x]) fun a=>fW (step8 c (at0 w 0) v) fun u=>nG r a u k
theorem mE(p l:List Nat)(j:Nat):at0 (p++l) (p.length+j)=at0 l j:=by
 unfold at0;rw[jq (Nat.le_add_right _ _),qar]
theorem yd5(p w:List Nat)(d:w.length=16):nxt (p++w)=nx16 (at0 w 0) (at0 w 1) (at0 w 9) (at0 w 14):=by
 have h:(p++w).length=p.length+16:=by rw[qb,d]
 have h1:p.length+16 - 16=p.length+0:=by omega
 have a:p.length+16 - 15=p.length+1:=by omega
 have b:p.length+16 - 7=p.length+9:=by omega
 have c:p.length+16 - 2=p.length+14:=by omega
 rw[nxt,h,h1,a,b,c,mE,mE,mE,mE];rfl
theorem mg:∀(n:Nat) (w:List Nat),∃z,grow n w=w++z/\z.length=n
 |0,w=>⟨[],by simp[grow],rfl⟩
 |n+1,w=>by
  obtain⟨z,b,a⟩:=mg n (w++[nxt w]);exact⟨nxt w::z,by rw[grow,b];simp,by simp[a]⟩
theorem A5(k:W8->β):∀(b:List Nat) (n:Nat) (p w:List Nat) (v:W8),b.length<=n->w.length=16->
  nG b w v k=k (fg (b.zip ((grow n (p++w)).drop p.length)) v):=by
 intro b
 induction b with
 |nil=>intro n p w v _ _;rfl
 |cons c r ih=>
  intro n p w v h d;cases n with
  |zero=>exact absurd h ss
  |succ n=>
   cases w with
   |nil=>cases d
   |cons a t=>
    have f:t.length=15:=by simpa using d
    have ih:=ih n (p++[a]) (t++[nxt (p++a::t)]) (step8 c a v) (by simpa using h) (by rw[qb,f];rfl);rw[nG,force_eq,o7,fW_eq,<-yd5 p _ d];rw[show(a::t).drop 1=t from rfl,show at0 (a::t) 0=a from rfl,ih];have e:p++[a]++(t++[nxt (p++a::t)])=p++a::t++[nxt (p++a::t)]:=by simp
    rw[e,grow];obtain⟨z,g,-⟩:=mg n (p++a::t++[nxt (p++a::t)]);rw[g]
    have d1:(p++a::t++[nxt (p++a::t)]++z).drop p.length=a::(t++[nxt (p++a::t)]++z):=by
     rw[ql,ql,qc0];simp
    have d2:(p++a::t++[nxt (p++a::t)]++z).drop (p++[a]).length=t++[nxt (p++a::t)]++z:=by
     rw[<-e,ql (p++[a]),qc0]
    rw[d1,d2,qcf,fg,fg,qaj]
theorem ye8(k a z:List Nat)(h:k.length<=a.length):k.zip (a++z)=k.zip a:=by
 induction k generalizing a with
 |nil=>rfl
 |cons x r ih=>cases a with
  |nil=>exact absurd h ss
  |cons y s=>rw[jz,qcf,qcf,ih s (by simpa using h)]
theorem vK:∀(m n:Nat) (w:List Nat),grow (m+n) w=grow n (grow m w)
 |0,n,w=>by rw[qz];rfl
 |m+1,n,w=>by rw[Nat.add_right_comm];exact vK m n _
def rf{β:Type}(b:List UInt8)(v:W8)(k:W8->β):β:=kP ((List.range 16).map (word b)) fun w=>nG konst w v fun u=>fW (add8 v u) k
theorem zf(b:List UInt8)(v:W8)(k:W8->β):rf b v k=k (fQ b v):=by
 rw[rf,o7];have h:=A5 (fun u=>fW (add8 v u) k) konst 64 [] ((List.range 16).map (word b)) v (nb rfl) rfl;refine h.trans ?_;rw[fW_eq,fQ]
 have e:(konst.zip ((grow 64 ([]++(List.range 16).map (word b))).drop ([]:List Nat).length))=konst.zip (sched b):=by
  rw[qw,qv,y5,sched,show(64:Nat)=48+16 from rfl,vK];obtain⟨z,d,-⟩:=mg 16 (grow 48 ((List.range 16).map (word b)));rw[d];refine ye8 _ _ _ ?_;obtain⟨y,c,a⟩:=mg 48 ((List.range 16).map (word b));rw[c,qb,a];exact nb rfl
 rw[e]
def mI{β:Type}:List Nat->List UInt8->W8->(W8->β)->β
 |[],_,v,k=>k v
 |i::r,p,v,k=>rf ((p.drop (64*i)).take 64) v fun u=>mI r p u k
theorem uf{β:Type}(p:List UInt8)(k:W8->β):∀(l:List Nat) (v:W8),mI l p v k=k (l.foldl (fun v k=>fQ ((p.drop (64*k)).take 64) v) v)
 |[],_=>rfl
 |i::r,v=>by rw[mI,zf,uf p k r,qaj]
def sumW(s:List UInt8):List UInt8:=mI (List.range ((padded s).length / 64)) (padded s) init8 fd
theorem sJ(s:List UInt8):sumW s=sumS s:=by rw[sumW,uf];rfl
theorem leafV{s d:List UInt8}(h:sumW (0::s)=d):leafS s=d:=by rw[leafS,<-sJ,h]
theorem nodeV{a b x y d:List UInt8}(c:a=x)(hb:b=y)(h:sumW (1::(x++y))=d):nodeS a b=d:=by rw[nodeS,c,hb,<-sJ,h]
def valA:List (List UInt8):=[[2,12,84,111,32,32,66,101],[2,10],[0],[0],[0],[0,0],[0,0,0],[2,0]]
theorem gl0:leafS [2,12,84,111,32,32,66,101]=[238,43,26,1,207,144,68,193,115,18,112,4,215,143,46,111,177,187,153,33,44,0,1,222,88,185,117,180,10,41,136,53]:=leafV (by decide+kernel)
theorem gl1:leafS [2,10]=[211,168,146,147,135,137,144,118,180,0,248,134,99,149,60,40,227,223,96,46,78,218,94,137,173,237,112,221,10,152,83,107]:=leafV (by decide+kernel)
theorem gl2:leafS [0]=[150,162,150,210,36,242,133,198,123,238,147,195,15,138,48,145,87,240,218,163,93,197,184,126,65,11,120,99,10,9,207,199]:=leafV (by decide+kernel)
theorem gl3:leafS [0,0]=[112,158,128,200,132,135,162,65,30,30,228,223,185,242,42,134,20,146,210,12,71,101,21,12,12,121,74,189,112,248,20,124]:=leafV (by decide+kernel)
theorem gl4:leafS [0,0,0]=[223,63,97,152,4,169,47,219,64,87,25,45,196,61,215,72,234,119,138,220,82,188,73,140,232,5,36,192,20,184,17,25]:=leafV (by decide+kernel)
theorem gl5:leafS [2,0]=[219,188,112,37,232,158,185,177,236,158,142,44,122,45,182,134,157,187,80,251,162,27,243,116,200,101,41,220,49,28,237,233]:=leafV (by decide+kernel)
theorem gnA0:nodeS (leafS [2,12,84,111,32,32,66,101]) (leafS [2,10])=[116,129,84,203,128,152,161,250,41,172,209,118,108,42,66,180,165,165,154,122,167,31,35,29,237,223,246,32,172,226,30,157]:=nodeV (gl0) (gl1) (by decide+kernel)
theorem gnA1:nodeS (leafS [0]) (leafS [0])=[13,226,65,128,173,164,201,93,183,137,134,218,62,87,14,167,168,41,106,252,156,252,123,4,185,118,203,170,91,180,234,137]:=nodeV (gl2) (gl2) (by decide+kernel)
theorem gnA2:nodeS (leafS [0]) (leafS [0,0])=[123,80,130,78,116,212,98,75,241,11,125,227,213,139,216,133,49,214,80,228,55,94,69,79,228,185,104,93,12,73,204,149]:=nodeV (gl2) (gl3) (by decide+kernel)
theorem gnA3:nodeS (leafS [0,0,0]) (leafS [2,0])=[251,214,97,244,25,243,9,210,205,9,142,32,93,57,232,164,201,154,136,225,224,89,230,34,176,43,250,58,47,151,64,127]:=nodeV (gl4) (gl5) (by decide+kernel)
theorem gnA4:nodeS (nodeS (leafS [2,12,84,111,32,32,66,101]) (leafS [2,10])) (nodeS (leafS [0]) (leafS [0]))=[238,208,255,52,27,145,149,89,39,245,242,170,80,225,87,142,125,108,37,18,110,36,23,176,152,226,240,21,103,49,64,163]:=nodeV (gnA0) (gnA1) (by decide+kernel)
theorem gnA5:nodeS (nodeS (leafS [0]) (leafS [0,0])) (nodeS (leafS [0,0,0]) (leafS [2,0]))=[61,188,37,240,46,83,250,156,148,215,32,106,192,242,66,51,240,233,62,90,236,106,112,36,82,248,165,27,185,208,211,42]:=nodeV (gnA2) (gnA3) (by decide+kernel)
theorem gnA6:nodeS (nodeS (nodeS (leafS [2,12,84,111,32,32,66,101]) (leafS [2,10])) (nodeS (leafS [0]) (leafS [0]))) (nodeS (nodeS (leafS [0]) (leafS [0,0])) (nodeS (leafS [0,0,0]) (leafS [2,0])))=[171,174,167,58,167,81,185,43,48,224,96,218,29,211,146,128,64,184,139,96,77,17,46,118,111,240,82,54,231,197,36,76]:=nodeV (gnA4) (gnA5) (by decide+kernel)
theorem rootA:root8 valA=[171,174,167,58,167,81,185,43,48,224,96,218,29,211,146,128,64,184,139,96,77,17,46,118,111,240,82,54,231,197,36,76]:=gnA6
def valC:List (List UInt8):=[[2,10,116,111,32,98,101],[2,0],[0],[0],[0],[0,0],[0,0,0],[2,0]]
theorem gl6:leafS [2,10,116,111,32,98,101]=[181,74,11,201,27,109,77,171,99,210,222,104,68,96,9,243,161,211,126,175,131,90,161,233,7,198,238,32,108,6,140,164]:=leafV (by decide+kernel)
theorem gnC0:nodeS (leafS [2,10,116,111,32,98,101]) (leafS [2,0])=[189,227,190,161,253,59,247,175,172,237,225,62,75,50,84,1,115,35,95,217,101,220,82,217,148,100,23,193,204,128,124,44]:=nodeV (gl6) (gl5) (by decide+kernel)
theorem gnC1:nodeS (leafS [0]) (leafS [0])=[13,226,65,128,173,164,201,93,183,137,134,218,62,87,14,167,168,41,106,252,156,252,123,4,185,118,203,170,91,180,234,137]:=nodeV (gl2) (gl2) (by decide+kernel)
theorem gnC2:nodeS (leafS [0]) (leafS [0,0])=[123,80,130,78,116,212,98,75,241,11,125,227,213,139,216,133,49,214,80,228,55,94,69,79,228,185,104,93,12,73,204,149]:=nodeV (gl2) (gl3) (by decide+kernel)
theorem gnC3:nodeS (leafS [0,0,0]) (leafS [2,0])=[251,214,97,244,25,243,9,210,205,9,142,32,93,57,232,164,201,154,136,225,224,89,230,34,176,43,250,58,47,151,64,127]:=nodeV (gl4) (gl5) (by decide+kernel)
theorem gnC4:nodeS (nodeS (leafS [2,10,116,111,32,98,101]) (leafS [2,0])) (nodeS (leafS [0]) (leafS [0]))=[182,79,0,168,112,244,243,82,166,87,160,70,230,42,70,147,161,56,61,154,66,245,27,147,150,39,125,160,0,127,31,124]:=nodeV (gnC0) (gnC1) (by decide+kernel)
theorem gnC5:nodeS (nodeS (leafS [0]) (leafS [0,0])) (nodeS (leafS [0,0,0]) (leafS [2,0]))=[61,188,37,240,46,83,250,156,148,215,32,106,192,242,66,51,240,233,62,90,236,106,112,36,82,248,165,27,185,208,211,42]:=nodeV (gnC2) (gnC3) (by decide+kernel)
theorem gnC6:nodeS (nodeS (nodeS (leafS [2,10,116,111,32,98,101]) (leafS [2,0])) (nodeS (leafS [0]) (leafS [0]))) (nodeS (nodeS (leafS [0]) (leafS [0,0])) (nodeS (leafS [0,0,0]) (leafS [2,0])))=[87,88,40,225,107,207,196,38,61,10,33,79,30,124,109,124,220,103,169,15,91,32,254,125,139,13,94,204,226,91,176,220]:=nodeV (gnC4) (gnC5) (by decide+kernel)
theorem rootC:root8 valC=[87,88,40,225,107,207,196,38,61,10,33,79,30,124,109,124,220,103,169,15,91,32,254,125,139,13,94,204,226,91,176,220]:=gnC6
theorem x7:root8 valC≠root8 valA:=by rw[rootA,rootC];decide
def d1:Dc:=exD [84,111,32,32,66,101] 5
def d2:Dc:=exD [116,111,32,32,98,101] 5
def d3:Dc:=exD [116,111,32,98,101] 0
def d4:Dc:=exD [116,111,32,98,101] 5
def mg1:Mig:=⟨1,1,2,false,[(1,[(1,0)])]⟩
def mg2:Mig:=⟨2,2,3,false,[(1,[(2,0)]),(2,[(6,0)])]⟩
theorem lJ(m:Mig)(d e:Dc):eE m d e=(migOk m&&(docOk d&&(docOk e&&(clOk (bQ m.keep) 1&&(bQ m.keep).all (chkAt (allB d) (allB e)))))):=by
 have h1:decide ((root8 (allB d)).length=32)=true:=decide_eq_true (iF _);have a:decide ((root8 (allB e)).length=32)=true:=decide_eq_true (iF _);have b:decide ((bQ m.keep).length=8)=true:=decide_eq_true (gF _);have c:decide ((allB d).length=8)=true:=decide_eq_true (ez _);have f:decide ((allB e).length=8)=true:=decide_eq_true (ez _)
 have g:crtOk (makeC m d e)=clOk (bQ m.keep) 1:=by
  show(decide ((root8 (allB d)).length=32)&&(decide ((root8 (allB e)).length=32)&&(decide (1<=(1:Int))&&(decide ((1:Int)<=64)&&(decide ((bQ m.keep).length=8)&&clOk (bQ m.keep) 1)))))=_;rw[h1,a,b];rfl
 have h:bJ (makeC m d e) (allB d) (allB e)=(clOk (bQ m.keep) 1&&(bQ m.keep).all (chkAt (allB d) (allB e))):=by
  rw[bJ,g,c,f];show(_&&(true&&(decide (root8 (allB d)=root8 (allB d))&&(decide (root8 (allB e)=root8 (allB e))&&(bQ m.keep).all (chkAt (allB d) (allB e))))))=_;rw[decide_eq_true rfl,decide_eq_true rfl];simp
 rw[eE,h]
theorem mk1:eE mg1 d1 d2=true:=by rw[lJ];decide+kernel
theorem mk2:eE mg1 d1 d4=false:=by rw[lJ];decide+kernel
theorem mk3:eE mg2 d2 d3=true:=by rw[lJ];decide+kernel
theorem all1:allB d1=valA:=by decide+kernel
theorem all3:allB d3=valC:=by decide+kernel
theorem doc1:docOk d1=true:=by decide+kernel
theorem doc3:docOk d3=true:=by decide+kernel
def cA:Crt:=makeC mg1 d1 d2
def cB:Crt:=makeC mg2 d2 d3
theorem nT{m:Mig}{d e:Dc}(h:eE m d e=true):crtOk (makeC m d e)=true:=by
 simp only[eE,qd,bJ]at h;exact h.2.2.2.1
theorem okA:crtOk cA=true:=nT mk1
theorem okB:crtOk cB=true:=nT mk3
def cX:Crt:=⟨root8 (allB d1),root8 (allB d3),2,exCl⟩
theorem yga:joinC cA cB=cX:=by
 have h:List.zipWith dv (bQ mg1.keep) (bQ mg2.keep)=exCl:=by decide+kernel
 show Crt.mk (root8 (allB d1)) (root8 (allB d3)) 2 (List.zipWith dv (bQ mg1.keep) (bQ mg2.keep))=_;rw[h];rfl
theorem comp1:du [cA,cB]=some cX:=by
 have b:c8 cA cB=true:=by
  have hb:crtOk cB=true:=nT mk3;have a:decide (cA.dst=cB.src)=true:=decide_eq_true rfl;rw[c8,a,hb];rfl
 rw[du,if_pos okA,foldS,if_pos b,foldS,yga]
theorem comp2:du [cB,cA]=none:=by
 have b:c8 cB cA=false:=by
  have a:decide (cB.dst=cA.src)=false:=decide_eq_false (by
   show root8 (allB d3)≠root8 (allB d1);rw[all1,all3];exact x7)
  rw[c8,a];rfl
 rw[du,if_pos okB,foldS,if_neg (by rw[b];simp)]
theorem cX_ok:crtOk cX=true:=by
 show(decide ((root8 (allB d1)).length=32)&&(decide ((root8 (allB d3)).length=32)&&(decide (1<=(2:Int))&&(decide ((2:Int)<=64)&&(decide (exCl.length=8)&&clOk exCl 1)))))=_;rw[decide_eq_true (iF _),decide_eq_true (iF _)];decide+kernel
theorem chk1:bJ cX (allB d1) (allB d3)=true:=by
 have h:exCl.all (chkAt (allB d1) (allB d3))=true:=by decide+kernel
 rw[bJ,cX_ok,decide_eq_true (ez _),decide_eq_true (ez _)];show(true&&((true&&true)&&(decide (root8 (allB d1)=root8 (allB d1))&&(decide (root8 (allB d3)=root8 (allB d3))&&exCl.all (chkAt (allB d1) (allB d3))))))=true;rw[decide_eq_true rfl,decide_eq_true rfl,h];rfl
theorem chk2:bJ cX (allB d3) (allB d1)=false:=by
 have h:decide (root8 (allB d3)=root8 (allB d1))=false:=decide_eq_false (by rw[all1,all3];exact x7);rw[bJ];show(_&&(_&&(decide (root8 (allB d3)=root8 (allB d1))&&_)))=false;rw[h];simp
theorem sameX:mP cX cX=true:=by simp[mP]
theorem ygv:mP cA cB=false:=by
 have h:decide (bQ mg1.keep=bQ mg2.keep)=false:=by decide+kernel
 show(_&&(_&&(_&&decide (bQ mg1.keep=bQ mg2.keep))))=false;rw[h];simp
theorem encX:encC cX=[64]++root8 valA++[64]++root8 valC++[4,4,2,0,4,0,2,12,0,0,0,0,0,0,0]:=by
 have h1:∀s:List UInt8,s.length=32->(putSR s).1=[64]++s:=fun s c=>by
  have b:putI ((32:Nat):Int)=[64]:=by decide+kernel
  rw[putSR,if_neg oo,c];show putI ((32:Nat):Int)++s=_;rw[b]
 have a:aB [(2:Int)]++(exCl.map ff).flatten=[4,4,2,0,4,0,2,12,0,0,0,0,0,0,0]:=by decide+kernel
 show(putSR (root8 (allB d1))).1++(putSR (root8 (allB d3))).1++aB [(2:Int)]++(exCl.map ff).flatten=_;rw[ql _ (aB _),a,h1 _ (iF _),h1 _ (iF _),all1,all3];simp only[ql]
theorem rd1:getS (encC cX) 0=(root8 valA,33,0):=by rw[encX,rootA,rootC];decide+kernel
theorem rd2:getS (encC cX) 33=(root8 valC,66,0):=by rw[encX,rootA,rootC];decide+kernel
theorem rd3:getI (encC cX) 66=(2,67,0):=by rw[encX,rootA,rootC];decide+kernel
theorem rd4:∀k:Nat,k < 14->getI (encC cX) (67+(k:Int))=(exV[k]?.getD 0,68+(k:Int),0):=by rw[encX,rootA,rootC];decide+kernel
theorem rdl:(encC cX).length=81:=by rw[encX,rootA,rootC];rfl
end Go.Proofs.YtfnkamphhpldcaaGreatDoor
namespace Sx
open Go
def LJ0(a:St)(jl:List Nat)(F:Fz):St:=⟨[]::junks jl::a.t,[(0,.frz F)]::a.h,a.nx,a.n0,a.nt,a.d⟩
theorem cutJ{P:Program}{c:Code}{a:St}{Q:SE->St->Prop}{X:Type}(b:Fz)(upd:X->List (Nat×SV))(jl:List Nat)(hup:X->List (Nat×Ent))(N:Nat)
  (i:WfH a.h a.nx->WfT a.t a.nx->Le a (LJ0 a jl b))
  (h1:WfH a.h a.nx->WfT a.t a.nx->WP P c (LJ0 a jl b) (fun e d=>e=.normal/\∃x,Le d (LI a upd jl hup N x)))
  (j:∀x,Q .normal (LI a upd jl hup N x)):WP P c a Q:=
 yfa (LJ0 a jl b) (LI a upd jl hup N) (fun f g=>⟨i f g,h1 f g⟩) j
end Sx
namespace Go.Proofs.YtfnkamphhpldcaaGreatDoor
open Go Sx Tryz
set_option maxRecDepth 100000
abbrev dS(b:Nat):List SA:=docS (.slice false 0 b 0 2 1 1) (.slice true 0 0 0 6 0 0) 0 []
abbrev LnAt(F:Fz)(b:Nat)(t:List UInt8)(m:Int):Prop:=F b=some (.arr 148 2 ([(t,m)].map encN) 1)
theorem ygk(F:Fz)(g:MLF F)(i:RNDF F)(sk:SA)(b c:Nat)(j:KpsAt F sk mg1.keep)(h1:LnAt F b [84,111,32,32,66,101] 5)(f:LnAt F c [116,111,32,32,98,101] 5):
  Fo prog F 21 [.agg (migS mg1 sk),.agg (dS b),.agg (dS c)] (fun o a=>∃e,o=.ret (.tup [.agg (crtS cA e),.va (.int .i64 0)])/\ClsAt a e cA.cl):=
 cP (mZ F g i sk _ _ _ _ mg1 d1 d2 j (by intro x d;simp[mg1]at d;subst d;decide) dd (exAt h1) (exAt f) (gQ _ _) (gQ _ _)) fun o a h=>by
  rcases h with⟨h,_⟩ | ⟨_,h⟩
  ·exact absurd (h.symm.trans mk1) ss
  ·exact h
theorem ygm(F:Fz)(f:MLF F)(g:RNDF F)(sk:SA)(a b:Nat)(i:KpsAt F sk mg1.keep)(h1:LnAt F a [84,111,32,32,66,101] 5)(e:LnAt F b [116,111,32,98,101] 5):
  Fo prog F 21 [.agg (migS mg1 sk),.agg (dS a),.agg (dS b)] (fun o _=>o=.ret (.tup [.agg [.str [],.str [],.int .i64 0,.nilsl],.va (.int .i64 100)])):=
 cP (mZ F f g sk _ _ _ _ mg1 d1 d4 i (by intro x c;simp[mg1]at c;subst c;decide) dd (exAt h1) (exAt e) (gQ _ _) (gQ _ _)) fun o d h=>by
  rcases h with⟨_,h⟩ | ⟨h,_⟩
  ·exact h
  ·exact absurd (h.symm.trans mk2) ss
theorem ygl(F:Fz)(g:MLF F)(i:RNDF F)(sk:SA)(b c:Nat)(j:KpsAt F sk mg2.keep)(h1:LnAt F b [116,111,32,32,98,101] 5)(f:LnAt F c [116,111,32,98,101] 0):
  Fo prog F 21 [.agg (migS mg2 sk),.agg (dS b),.agg (dS c)] (fun o a=>∃e,o=.ret (.tup [.agg (crtS cB e),.va (.int .i64 0)])/\ClsAt a e cB.cl):=
 cP (mZ F g i sk _ _ _ _ mg2 d2 d3 j (by intro x d;simp[mg2]at d;rcases d with rfl | rfl<;>decide) dd (exAt h1) (exAt f) (gQ _ _) (gQ _ _)) fun o a h=>by
  rcases h with⟨h,_⟩ | ⟨_,h⟩
  ·exact absurd (h.symm.trans mk3) ss
  ·exact h
theorem sameT(F:Fz)(b c:SA)(a:List Stp)(e:bD F b a)(hb:bD F c a)(f:a.length < 1000000):Fo prog F 46 [.va b,.va c] (fun o d=>o=.ret (.va (.lit true))/\d=F):=by
 have h1:=yeq F b c a a e hb f;rw[decide_eq_true rfl]at h1;exact fy h1
abbrev zC:List SA:=[.str [],.str [],.int .i64 0,.nilsl]
abbrev zC':List SA:=[.str [],.str [],.int .i64 0,.slice true 0 0 0 2 0 0]
theorem zSwap(ρ:Rho)(vs:List Value)(h:relL ρ [.agg zC] vs):relL ρ [.agg zC'] vs:=by
 match vs,h with
 |[],h=>exact h.elim
 |[v],h=>exact h
 |_::_::_,h=>exact h
theorem yhe(n:Nat):∀s∈[SV.agg zC'],s.below n:=fun s c=>by
 simp only[qs]at c;subst c;intro a b;simp only[qi,qp,or_false]at b;rcases b with rfl | rfl | rfl | rfl
 ·trivial
 ·trivial
 ·trivial
 ·exact .inl rfl
theorem pp:short cA.cl:=lf (by intro x a;simp[mg1]at a;subst a;decide)
theorem wQ:short cB.cl:=lf (by intro x a;simp[mg2]at a;rcases a with rfl | rfl<;>decide)
theorem kp:short cX.cl:=fun x a=>by have:=uq x a;omega
theorem crts2{F:Fz}{b:Nat}{c d:Crt}{e f:SA}(h1:ClsAt F e c.cl)(g:ClsAt F f d.cl)(hb:F b=some (.arr 48 4 [crtS c e,crtS d f] 2)):nq F (.slice false 0 b 0 4 2 2) [c,d]:=
 SlR.new (l:=[c,d]) hb rfl fun k x a=>by
  match k,a with
  |0,a=>cases a;exact⟨_,rfl,e,rfl,h1⟩
  |1,a=>cases a;exact⟨_,rfl,f,rfl,g⟩
  |k+2,a=>cases a
theorem nk{p:Crt->Prop}{a b:Crt}(h1:p a)(e:p b):∀c∈[a,b],p c:=by
 intro c d;simp only[qi,qp,or_false]at d;rcases d with rfl | rfl
 ·exact h1
 ·exact e
theorem nK:cA.cl.length < 1000000:=yq (qci (gF mg1.keep)) dd
theorem ybq:cB.cl.length < 1000000:=yq (qci (gF mg2.keep)) dd
theorem ycw(F:Fz)(b:Nat)(d e:SA)(i:ClsAt F d cA.cl)(j:ClsAt F e cB.cl)(hb:F b=some (.arr 48 4 [crtS cA d,crtS cB e] 2)):
  Fo prog F 30 [.va (.slice false 0 b 0 4 2 2)] (fun o a=>∃sk,o=.ret (.tup [.agg (crtS cX sk),.va (.int .i64 0)])/\ClsAt a sk cX.cl):=
 cP (lx F false b 0 2 [cA,cB] (crts2 i j hb) (qj 2) (nk pp wQ) (nk nK ybq) (by show 2 < 1000000;decide)) fun o a h=>by
  rcases h with⟨h,_⟩ | ⟨c,h,f⟩
  ·exact absurd (h.symm.trans comp1) ss
  ·have g:c=cX:=by have:=h.symm.trans comp1;exact Option.some.inj this
   subst g;exact f
theorem ycv(F:Fz)(b:Nat)(a d:SA)(f:ClsAt F a cA.cl)(g:ClsAt F d cB.cl)(hb:F b=some (.arr 48 4 [crtS cB d,crtS cA a] 2)):
  Fo prog F 30 [.va (.slice false 0 b 0 4 2 2)] (fun o _=>o=.ret (.tup [.agg [.str [],.str [],.int .i64 0,.nilsl],.va (.int .i64 100)])):=
 cP (lx F false b 0 2 [cB,cA] (crts2 g f hb) (qj 2) (nk wQ pp) (nk ybq nK) (by show 2 < 1000000;decide)) fun o e h=>by
  rcases h with⟨_,h⟩ | ⟨c,h,_⟩
  ·exact h
  ·exact absurd (h.symm.trans comp2) ss
theorem ycu(F:Fz):Fo prog F 30 [.va (.slice true 0 0 0 4 0 0)] (fun o _=>o=.ret (.tup [.agg [.str [],.str [],.int .i64 0,.nilsl],.va (.int .i64 100)])):=
 cP (lx F true 0 0 0 [] SlR.nil dd ss ss dd) fun o a h=>by
  rcases h with⟨_,h⟩ | ⟨c,h,_⟩
  ·exact h
  ·cases h
theorem yQ(F:Fz)(b:Nat)(t:List UInt8)(m:Int)(h:LnAt F b t m)(d:docOk (exD t m)=true):Fo prog F 14 [.agg (dS b)] (fun o a=>∃b c,o=.ret (.tup [.va (.slice false 0 b 0 1 8 c),.va (.int .i64 0)])/\a b=some (.arr 9 1 ((allB (exD t m)).map encS) c)):=
 cP (pZ F _ _ (exD t m) (exAt h) (gQ _ _)) fun o a h=>by
  rcases h with⟨h,_⟩ | ⟨_,h⟩
  ·exact absurd (h.symm.trans d) ss
  ·exact h
