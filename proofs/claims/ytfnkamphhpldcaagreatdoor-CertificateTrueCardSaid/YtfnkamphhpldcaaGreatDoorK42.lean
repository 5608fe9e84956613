import Derived.Test.YtfnkamphhpldcaaGreatDoorK38
import Derived.Test.YtfnkamphhpldcaaGreatDoorK40
import Derived.Test.YtfnkamphhpldcaaGreatDoorK41
set_option maxHeartbeats 64000000
namespace Go.Proofs.YtfnkamphhpldcaaGreatDoor
open Go Sx
set_option maxRecDepth 100000
abbrev zgl(x:Stp)(v:RVal):Out->Fz->Prop:=fun o b=>∃a,o=.ret (.agg (rvS (stepR x v) a))/\Its b a (stepR x v).lines
theorem zef{F F1:Fz}{x:Stp}{v r:RVal}{h:Hp}{nx:Nat}(d:stepR x v=r)(c:r.lines=[])(b:lget h 0=some (.frz F1))(a:Fz.le F F1):
  Cln 1 (FoK F (zgl x v)) (.ret (.agg (rvS r .nilsl))) h nx:=by
 subst d;exact endFo (.ret (.agg (rvS (stepR x v) .nilsl))) F1 b a (Fz.r F1) ⟨_,rfl,by rw[c];exact Its.nil⟩ (zal _) rfl
theorem zix{α β:Type}{f:α->β}{l:List α}{k:Nat}{o:List β}{y:α}{z:β}(g:k < l.length)(a:l[k]=y)(b:f y=z)(h:o=(l.take k).map f):o++[z]=(l.take (k+1)).map f:=by
 rw[qf g,qs,h,a];simp[b]
theorem zda{μ:Mu}{i j c n:Nat}{L:List RLn}{x:RLn}{w h:Int}{bits:List UInt8}(a:μ i 0=(j,0))(b:n=L.length+1):SB.cells 110 [.lit false,.slice false j 0 0 5 n c,.int .i64 w,.int .i64 h,.str bits]=SB.ren μ (.cells 110 [.lit false,gA 5 i c (L++[x]),.int .i64 w,.int .i64 h,.str bits]):=zc2 a b
def stpE(x:Stp):Ent:=.one (.cells 56 (enc x))
theorem zci{n:Nat}(x:Stp):(stpE x).below n:=(SB.bB_ok rfl:SB.below n (.cells 56 (enc x)))
theorem z7d{z n:Int}(a:n=10\/n=100\/n=1000)(b:i64 z):IntKind.i64.wrap (IntKind.i64.wrap (z.tdiv n)*n)=z.tdiv n*n:=by
 have h1:-9223372036854775808<=z.tdiv n*n/\z.tdiv n*n<=9223372036854775807/\ -9223372036854775808<=z.tdiv n/\z.tdiv n<=9223372036854775807:=by
  unfold i64 at b;by_cases h:0<=z
  ·rw[ji h];rcases a with rfl | rfl | rfl<;>omega
  ·have e:z.tdiv n= -((-z).tdiv n):=by rw[qdq];omega
   rw[e,ji (by omega)];rcases a with rfl | rfl | rfl<;>omega
 rw[zah h1.2.2.1 h1.2.2.2,zah h1.1 h1.2.1]
theorem zxl(F:Fz)(p u:Int)(L:List RLn)(w h:Int)(bits:List UInt8)(b e c:Nat)(X:List (List SA))(T:Nat)(_:True)(hF:F b=some (.arr 191 5 X T))(I:(X.drop e).take L.length=L.map encL)(hl:L.length<=64)(hx:∀x∈L,x.1.length<=80/\((1:Int)=3->i64 x.2.2.2.1)):
  Fo Tryz.prog F 55 [.va (.int .i64 p),.agg (enc (1,u)),.agg (rvS ⟨false,L,w,h,bits⟩ (sl0 b e L.length c))] (zgl (1,u) ⟨false,L,w,h,bits⟩):=by
 have G:stepR (1,u) ⟨false,L,w,h,bits⟩=⟨false,L.map (zdl (1,u)),0,0,[]⟩:=rfl;refine foS Tryz.func55 ?_;refine br (fun g=>absurd (od g) (show¬(1:Int)=6 by decide)) (fun _=>?_);refine br (fun g=>absurd (od g) (show¬(1:Int)=5 by decide)) (fun _=>?_);conv=>whnf
 refine zak hΘ (X:={ y:Nat×List RLn×Nat // y.1<=L.length/\y.2.1=(L.take y.1).map (zdl (1,u)) }) (fun y=>[(8,.va (.int .i64 y.1.1))]) (9::jr 24 55 [])
  (fun y=>[(0,.frz F),(1,stpE (1,u)),(2,rvSE ⟨false,L,w,h,bits⟩ b e L.length c),(3,rvalE ⟨false,[],0,0,[]⟩ 0 0),(4,rvalE ⟨false,y.1.2.1,0,0,[]⟩ 5 y.1.2.2),(5,gE 191 5 encL y.1.2.2 y.1.2.1)]) 6 (fun y=>L.length - y.1.1) ⟨(0,[],0),by simp⟩
  (fun V W=>leI [(5,5)] V W rfl ⟨tv,zci _,zbc,zai (by omega) _,zai (by omega) _,zab zaf _ _ _ _ _,tv⟩ ⟨rfl,tv⟩ ⟨Fz.r F,rfl,rfl,rfl,rfl,rfl,tv⟩) ?_
 rintro⟨⟨k,o,co⟩,hk,n⟩ V W;replace hk:k<=L.length:=hk;replace n:o=(L.take k).map (zdl (1,u)):=n;have Q:o.length=k:=by rw[n,qe,qo];omega
 by_cases U:k < L.length
 ·have Y:∃x,L[k]=x:=⟨_,rfl⟩
  obtain⟨⟨t,n0,D,s,E⟩,A⟩:=Y;have a:X[e+(k:Int).toNat]? =some (encL (t,n0,D,s,E)):=by rw[<-A];exact Sl.at I U
  have M:(k:Int) < (L.length:Nat):=by omega
  have j:0<=(k:Int)/\(k:Int) < (L.length:Nat):=by omega
  have ht:=hx _ (qw U);rw[A]at ht;obtain⟨R,B⟩:=ht;replace R:t.length<=80:=R;replace B:(1:Int)=3->i64 s:=B;have K:k+1<=L.length:=U;have i:L.length - (k+1) < L.length - k:=by omega
  have m:k < 4611686018427387904:=by omega
  have d:=z7c F t (by omega);have O:=zix (f:=zdl (1,u)) U A (z:=(t.map foldB,n0,D,s,E)) (by show(Lib.toLowerA t,n0,D,s,E)=_;rw[zwt]) n;clear G hx n I B;rcases o with _ | ⟨S,q⟩
  ·refine bri M ⟨rfl,j,_,hF,_,a,?_⟩;refine br (fun _=>?_) (fun g=>absurd (show(1:Int)=1 from rfl) (oe g));refine usePt d ?_;refine⟨nb rfl,[encL (t.map foldB,n0,D,s,E)],rfl,rfl,rfl,by show 1*48<=140737488355328;omega,fun c' hc=>?_⟩;exact⟨⟨(k+1,([])++[(t.map foldB,n0,D,s,E)],c'),K,O⟩,i,leR [(5,8)] V W rfl ⟨tv,zci _,zbc,zai (by omega) _,zai (by omega) _,zab zaf _ _ _ _ _,tv⟩ ⟨cnt m,tv⟩ ⟨Fz.r F,rfl,rfl,rfl,zda (μ:=sig [(5,8)]) rfl rfl,zaj zaf (za3 _ (by simp)),tv⟩⟩
  ·have ab:(q.length+1+1)*48<=140737488355328:=by
    have h9:q.length+1=k:=Q;omega
   refine bri M ⟨rfl,j,_,hF,_,a,?_⟩;refine br (fun _=>?_) (fun g=>absurd (show(1:Int)=1 from rfl) (oe g));refine usePt d ?_;refine⟨nb rfl,[encL (t.map foldB,n0,D,s,E)],rfl,rfl,rfl,by simp,rfl,ab,fun c' hc=>?_⟩;exact⟨⟨(k+1,(S::q)++[(t.map foldB,n0,D,s,E)],c'),K,O⟩,i,leR [(5,8)] V W rfl ⟨tv,zci _,zbc,zai (by omega) _,zai (by omega) _,zab zaf _ _ _ _ _,tv⟩ ⟨cnt m,tv⟩ ⟨Fz.r F,rfl,rfl,rfl,zda (μ:=sig [(5,8)]) rfl rfl,zaj zaf (za3 _ (by simp)),tv⟩⟩
 ·have J:¬(k:Int) < (L.length:Nat):=by omega
  have Z:k=L.length:=by omega
  rw[Z,qh (qi _)]at n;rw[<-n]at G;clear n Q;rcases o with _ | ⟨S,q⟩
  ·refine brj J ?_;exact zef G rfl rfl (Fz.r F)
  ·refine brj J ?_;refine zck 5 (fun _=>.arr 191 5 ((S::q).map encL) co) rfl rfl rfl (fun _ _=>by exact zcy zaf rfl _ _ _ _) (fun _ _=>zbj zaf _ _ _ _ _) ?_;intro b' F' aa hb;exact endFo (.ret (.agg (rvS ⟨false,S::q,0,0,[]⟩ (.slice false 0 (b' 0) 0 5 (q.length+1) co)))) F' rfl aa (Fz.r F') ⟨_,by rw[G],by rw[G];exact Its.new (l:=S::q) (hb 0 ⟨rfl,rfl⟩)⟩ rfl rfl
theorem zxm(F:Fz)(p q:Int)(L:List RLn)(w h:Int)(bits:List UInt8)(b e c:Nat)(X:List (List SA))(T:Nat)(_:True)(hF:F b=some (.arr 191 5 X T))(G:(X.drop e).take L.length=L.map encL)(hl:L.length<=64)(hx:∀x∈L,x.1.length<=80/\((2:Int)=3->i64 x.2.2.2.1)):
  Fo Tryz.prog F 55 [.va (.int .i64 p),.agg (enc (2,q)),.agg (rvS ⟨false,L,w,h,bits⟩ (sl0 b e L.length c))] (zgl (2,q) ⟨false,L,w,h,bits⟩):=by
 have E:stepR (2,q) ⟨false,L,w,h,bits⟩=⟨false,L.map (zdl (2,q)),0,0,[]⟩:=rfl;refine foS Tryz.func55 ?_;refine br (fun g=>absurd (od g) (show¬(2:Int)=6 by decide)) (fun _=>?_);refine br (fun g=>absurd (od g) (show¬(2:Int)=5 by decide)) (fun _=>?_);conv=>whnf
 refine zak hΘ (X:={ y:Nat×List RLn×Nat // y.1<=L.length/\y.2.1=(L.take y.1).map (zdl (2,q)) }) (fun y=>[(8,.va (.int .i64 y.1.1))]) (9::jr 24 55 [])
  (fun y=>[(0,.frz F),(1,stpE (2,q)),(2,rvSE ⟨false,L,w,h,bits⟩ b e L.length c),(3,rvalE ⟨false,[],0,0,[]⟩ 0 0),(4,rvalE ⟨false,y.1.2.1,0,0,[]⟩ 5 y.1.2.2),(5,gE 191 5 encL y.1.2.2 y.1.2.1)]) 6 (fun y=>L.length - y.1.1) ⟨(0,[],0),by simp⟩
  (fun V W=>leI [(5,5)] V W rfl ⟨tv,zci _,zbc,zai (by omega) _,zai (by omega) _,zab zaf _ _ _ _ _,tv⟩ ⟨rfl,tv⟩ ⟨Fz.r F,rfl,rfl,rfl,rfl,rfl,tv⟩) ?_
 rintro⟨⟨k,o,co⟩,hk,m⟩ V W;replace hk:k<=L.length:=hk;replace m:o=(L.take k).map (zdl (2,q)):=m;have O:o.length=k:=by rw[m,qe,qo];omega
 by_cases U:k < L.length
 ·have Y:∃x,L[k]=x:=⟨_,rfl⟩
  obtain⟨⟨t,n0,B,A,D⟩,s⟩:=Y;have a:X[e+(k:Int).toNat]? =some (encL (t,n0,B,A,D)):=by rw[<-s];exact Sl.at G U
  have K:(k:Int) < (L.length:Nat):=by omega
  have i:0<=(k:Int)/\(k:Int) < (L.length:Nat):=by omega
  have ht:=hx _ (qw U);rw[s]at ht;obtain⟨R,u⟩:=ht;replace R:t.length<=80:=R;replace u:(2:Int)=3->i64 A:=u;have J:k+1<=L.length:=U;have d:L.length - (k+1) < L.length - k:=by omega
  have j:k < 4611686018427387904:=by omega
  have Q:=zxk F t (by omega);have M:=zix (f:=zdl (2,q)) U s (z:=(spc false t,n0,B,A,D)) rfl m;clear E hx m G u;rcases o with _ | ⟨S,n⟩
  ·refine bri K ⟨rfl,i,_,hF,_,a,?_⟩;refine br (fun g=>absurd (od g) (show¬(2:Int)=1 by decide)) (fun _=>?_);refine br (fun _=>?_) (fun g=>absurd (show(2:Int)=2 from rfl) (oe g));refine usePt Q ?_;refine⟨nb rfl,[encL (spc false t,n0,B,A,D)],rfl,rfl,rfl,by show 1*48<=140737488355328;omega,fun c' hc=>?_⟩;exact⟨⟨(k+1,([])++[(spc false t,n0,B,A,D)],c'),J,M⟩,d,leR [(5,8)] V W rfl ⟨tv,zci _,zbc,zai (by omega) _,zai (by omega) _,zab zaf _ _ _ _ _,tv⟩ ⟨cnt j,tv⟩ ⟨Fz.r F,rfl,rfl,rfl,zda (μ:=sig [(5,8)]) rfl rfl,zaj zaf (za3 _ (by simp)),tv⟩⟩
  ·have ab:(n.length+1+1)*48<=140737488355328:=by
    have h9:n.length+1=k:=O;omega
   refine bri K ⟨rfl,i,_,hF,_,a,?_⟩;refine br (fun g=>absurd (od g) (show¬(2:Int)=1 by decide)) (fun _=>?_);refine br (fun _=>?_) (fun g=>absurd (show(2:Int)=2 from rfl) (oe g));refine usePt Q ?_;refine⟨nb rfl,[encL (spc false t,n0,B,A,D)],rfl,rfl,rfl,by simp,rfl,ab,fun c' hc=>?_⟩;exact⟨⟨(k+1,(S::n)++[(spc false t,n0,B,A,D)],c'),J,M⟩,d,leR [(5,8)] V W rfl ⟨tv,zci _,zbc,zai (by omega) _,zai (by omega) _,zab zaf _ _ _ _ _,tv⟩ ⟨cnt j,tv⟩ ⟨Fz.r F,rfl,rfl,rfl,zda (μ:=sig [(5,8)]) rfl rfl,zaj zaf (za3 _ (by simp)),tv⟩⟩
 ·have I:¬(k:Int) < (L.length:Nat):=by omega
  have Z:k=L.length:=by omega
  rw[Z,qh (qi _)]at m;rw[<-m]at E;clear m O;rcases o with _ | ⟨S,n⟩
  ·refine brj I ?_;exact zef E rfl rfl (Fz.r F)
  ·refine brj I ?_;refine zck 5 (fun _=>.arr 191 5 ((S::n).map encL) co) rfl rfl rfl (fun _ _=>by exact zcy zaf rfl _ _ _ _) (fun _ _=>zbj zaf _ _ _ _ _) ?_;intro b' F' aa hb;exact endFo (.ret (.agg (rvS ⟨false,S::n,0,0,[]⟩ (.slice false 0 (b' 0) 0 5 (n.length+1) co)))) F' rfl aa (Fz.r F') ⟨_,by rw[E],by rw[E];exact Its.new (l:=S::n) (hb 0 ⟨rfl,rfl⟩)⟩ rfl rfl
theorem zxn(F:Fz)(p a:Int)(L:List RLn)(w h:Int)(bits:List UInt8)(b e c:Nat)(X:List (List SA))(T:Nat)(hn:a=10\/a=100\/a=1000)(hF:F b=some (.arr 191 5 X T))(G:(X.drop e).take L.length=L.map encL)(hl:L.length<=64)(hx:∀x∈L,x.1.length<=80/\((3:Int)=3->i64 x.2.2.2.1)):
  Fo Tryz.prog F 55 [.va (.int .i64 p),.agg (enc (3,a)),.agg (rvS ⟨false,L,w,h,bits⟩ (sl0 b e L.length c))] (zgl (3,a) ⟨false,L,w,h,bits⟩):=by
 have E:stepR (3,a) ⟨false,L,w,h,bits⟩=⟨false,L.map (zdl (3,a)),0,0,[]⟩:=rfl;refine foS Tryz.func55 ?_;refine br (fun g=>absurd (od g) (show¬(3:Int)=6 by decide)) (fun _=>?_);refine br (fun g=>absurd (od g) (show¬(3:Int)=5 by decide)) (fun _=>?_);conv=>whnf
 refine zak hΘ (X:={ y:Nat×List RLn×Nat // y.1<=L.length/\y.2.1=(L.take y.1).map (zdl (3,a)) }) (fun y=>[(8,.va (.int .i64 y.1.1))]) (9::jr 24 55 [])
  (fun y=>[(0,.frz F),(1,stpE (3,a)),(2,rvSE ⟨false,L,w,h,bits⟩ b e L.length c),(3,rvalE ⟨false,[],0,0,[]⟩ 0 0),(4,rvalE ⟨false,y.1.2.1,0,0,[]⟩ 5 y.1.2.2),(5,gE 191 5 encL y.1.2.2 y.1.2.1)]) 6 (fun y=>L.length - y.1.1) ⟨(0,[],0),by simp⟩
  (fun V W=>leI [(5,5)] V W rfl ⟨tv,zci _,zbc,zai (by omega) _,zai (by omega) _,zab zaf _ _ _ _ _,tv⟩ ⟨rfl,tv⟩ ⟨Fz.r F,rfl,rfl,rfl,rfl,rfl,tv⟩) ?_
 rintro⟨⟨k,o,co⟩,hk,q⟩ V W;replace hk:k<=L.length:=hk;replace q:o=(L.take k).map (zdl (3,a)):=q;have Q:o.length=k:=by rw[q,qe,qo];omega
 by_cases U:k < L.length
 ·have Y:∃x,L[k]=x:=⟨_,rfl⟩
  obtain⟨⟨t,n0,B,A,D⟩,u⟩:=Y;have d:X[e+(k:Int).toNat]? =some (encL (t,n0,B,A,D)):=by rw[<-u];exact Sl.at G U
  have K:(k:Int) < (L.length:Nat):=by omega
  have m:0<=(k:Int)/\(k:Int) < (L.length:Nat):=by omega
  have ht:=hx _ (qw U);rw[u]at ht;obtain⟨R,i⟩:=ht;replace R:t.length<=80:=R;replace i:(3:Int)=3->i64 A:=i;have J:k+1<=L.length:=U;have j:L.length - (k+1) < L.length - k:=by omega
  have n:k < 4611686018427387904:=by omega
  have M:a≠0:=by omega
  have O:=zix (f:=zdl (3,a)) U u (z:=(t,n0,B,IntKind.i64.wrap (IntKind.i64.wrap (A.tdiv a)*a),D)) (by rw[z7d hn (i rfl)];rfl) q;clear E hx q G i;rcases o with _ | ⟨S,s⟩
  ·refine bri K ⟨rfl,m,_,hF,_,d,?_⟩;refine br (fun g=>absurd (od g) (show¬(3:Int)=1 by decide)) (fun _=>?_);refine br (fun g=>absurd (od g) (show¬(3:Int)=2 by decide)) (fun _=>?_);refine br (fun _=>?_) (fun g=>absurd (show(3:Int)=3 from rfl) (oe g));refine dwS (lk [0,1,3,4,6,7,9] (.alt 2 (lk [5,8,10] (.alt 11 .done .nil)) .nil)) [1] ?_;conv=>whnf
   repeat' ((conv=>whnf);first
    |refine⟨rfl,?_⟩
    |refine⟨Fz.r _,rfl,?_⟩
    |refine⟨Fz.r _,rfl,rfl,?_⟩
    |refine⟨⟨by simp,by simp⟩,?_⟩
    |fail)
   refine⟨M,⟨by decide,by decide⟩,Fz.r F,rfl,nb rfl,[encL (t,n0,B,IntKind.i64.wrap (IntKind.i64.wrap (A.tdiv a)*a),D)],rfl,rfl,rfl,by show 1*48<=140737488355328;omega,fun c' hc=>?_⟩;exact⟨⟨(k+1,([])++[(t,n0,B,IntKind.i64.wrap (IntKind.i64.wrap (A.tdiv a)*a),D)],c'),J,O⟩,j,leR [(5,8)] V W rfl ⟨tv,zci _,zbc,zai (by omega) _,zai (by omega) _,zab zaf _ _ _ _ _,tv⟩ ⟨cnt n,tv⟩ ⟨Fz.r F,rfl,rfl,rfl,zda (μ:=sig [(5,8)]) rfl rfl,zaj zaf (za3 _ (by simp)),tv⟩⟩
  ·have ab:(s.length+1+1)*48<=140737488355328:=by
    have h9:s.length+1=k:=Q;omega
   refine bri K ⟨rfl,m,_,hF,_,d,?_⟩;refine br (fun g=>absurd (od g) (show¬(3:Int)=1 by decide)) (fun _=>?_);refine br (fun g=>absurd (od g) (show¬(3:Int)=2 by decide)) (fun _=>?_);refine br (fun _=>?_) (fun g=>absurd (show(3:Int)=3 from rfl) (oe g));refine dwS (lk [0,1,3,4,6,7,9] (.alt 2 (lk [5,8,10] (.alt 11 .done .nil)) .nil)) [1] ?_;conv=>whnf
   repeat' ((conv=>whnf);first
    |refine⟨rfl,?_⟩
    |refine⟨Fz.r _,rfl,?_⟩
    |refine⟨Fz.r _,rfl,rfl,?_⟩
    |refine⟨⟨by simp,by simp⟩,?_⟩
    |fail)
   refine⟨M,⟨by decide,by decide⟩,Fz.r F,rfl,nb rfl,[encL (t,n0,B,IntKind.i64.wrap (IntKind.i64.wrap (A.tdiv a)*a),D)],rfl,rfl,rfl,by simp,rfl,ab,fun c' hc=>?_⟩;exact⟨⟨(k+1,(S::s)++[(t,n0,B,IntKind.i64.wrap (IntKind.i64.wrap (A.tdiv a)*a),D)],c'),J,O⟩,j,leR [(5,8)] V W rfl ⟨tv,zci _,zbc,zai (by omega) _,zai (by omega) _,zab zaf _ _ _ _ _,tv⟩ ⟨cnt n,tv⟩ ⟨Fz.r F,rfl,rfl,rfl,zda (μ:=sig [(5,8)]) rfl rfl,zaj zaf (za3 _ (by simp)),tv⟩⟩
 ·have I:¬(k:Int) < (L.length:Nat):=by omega
  have Z:k=L.length:=by omega
  rw[Z,qh (qi _)]at q;rw[<-q]at E;clear q Q;rcases o with _ | ⟨S,s⟩
  ·refine brj I ?_;exact zef E rfl rfl (Fz.r F)
  ·refine brj I ?_;refine zck 5 (fun _=>.arr 191 5 ((S::s).map encL) co) rfl rfl rfl (fun _ _=>by exact zcy zaf rfl _ _ _ _) (fun _ _=>zbj zaf _ _ _ _ _) ?_;intro b' F' aa hb;exact endFo (.ret (.agg (rvS ⟨false,S::s,0,0,[]⟩ (.slice false 0 (b' 0) 0 5 (s.length+1) co)))) F' rfl aa (Fz.r F') ⟨_,by rw[E],by rw[E];exact Its.new (l:=S::s) (hb 0 ⟨rfl,rfl⟩)⟩ rfl rfl
theorem zxo(F:Fz)(p d:Int)(L:List RLn)(w h:Int)(bits:List UInt8)(b e c:Nat)(X:List (List SA))(Z:Nat)(_:True)(hF:F b=some (.arr 191 5 X Z))(S:(X.drop e).take L.length=L.map encL)(hl:L.length<=64)(hx:∀x∈L,x.1.length<=80/\((4:Int)=3->i64 x.2.2.2.1)):
  Fo Tryz.prog F 55 [.va (.int .i64 p),.agg (enc (4,d)),.agg (rvS ⟨false,L,w,h,bits⟩ (sl0 b e L.length c))] (zgl (4,d) ⟨false,L,w,h,bits⟩):=by
 have R:stepR (4,d) ⟨false,L,w,h,bits⟩=⟨false,L.map (zdl (4,d)),0,0,[]⟩:=rfl;refine foS Tryz.func55 ?_;refine br (fun g=>absurd (od g) (show¬(4:Int)=6 by decide)) (fun _=>?_);refine br (fun g=>absurd (od g) (show¬(4:Int)=5 by decide)) (fun _=>?_);conv=>whnf
 refine zak hΘ (X:={ y:Nat×List RLn×Nat // y.1<=L.length/\y.2.1=(L.take y.1).map (zdl (4,d)) }) (fun y=>[(8,.va (.int .i64 y.1.1))]) (9::jr 24 55 [])
  (fun y=>[(0,.frz F),(1,stpE (4,d)),(2,rvSE ⟨false,L,w,h,bits⟩ b e L.length c),(3,rvalE ⟨false,[],0,0,[]⟩ 0 0),(4,rvalE ⟨false,y.1.2.1,0,0,[]⟩ 5 y.1.2.2),(5,gE 191 5 encL y.1.2.2 y.1.2.1)]) 6 (fun y=>L.length - y.1.1) ⟨(0,[],0),by simp⟩
  (fun K M=>leI [(5,5)] K M rfl ⟨tv,zci _,zbc,zai (by omega) _,zai (by omega) _,zab zaf _ _ _ _ _,tv⟩ ⟨rfl,tv⟩ ⟨Fz.r F,rfl,rfl,rfl,rfl,rfl,tv⟩) ?_
 rintro⟨⟨k,o,co⟩,hk,B⟩ K M;replace hk:k<=L.length:=hk;replace B:o=(L.take k).map (zdl (4,d)):=B;have V:o.length=k:=by rw[B,qe,qo];omega
 by_cases Q:k < L.length
 ·have aa:∃x,L[k]=x:=⟨_,rfl⟩
  obtain⟨⟨t,n0,n,m,q⟩,A⟩:=aa;have s:X[e+(k:Int).toNat]? =some (encL (t,n0,n,m,q)):=by rw[<-A];exact Sl.at S Q
  have U:(k:Int) < (L.length:Nat):=by omega
  have E:0<=(k:Int)/\(k:Int) < (L.length:Nat):=by omega
  have ht:=hx _ (qw Q);rw[A]at ht;obtain⟨Y,J⟩:=ht;replace Y:t.length<=80:=Y;replace J:(4:Int)=3->i64 m:=J;have u:k+1<=L.length:=Q;have i:L.length - (k+1) < L.length - k:=by omega
  have j:k < 4611686018427387904:=by omega
  have G:=fun h:n0>d=>zix (f:=zdl (4,d)) Q A (z:=(t,0,n,m,q)) (by show(t,(if n0>d then 0 else n0),n,m,q)=_;rw[if_pos h]) B
  have I:=fun h:¬n0>d=>zix (f:=zdl (4,d)) Q A (z:=(t,n0,n,m,q)) (by show(t,(if n0>d then 0 else n0),n,m,q)=_;rw[if_neg h]) B
  clear R hx B S J;rcases o with _ | ⟨O,D⟩
  ·refine bri U ⟨rfl,E,_,hF,_,s,?_⟩;refine br (fun g=>absurd (od g) (show¬(4:Int)=1 by decide)) (fun _=>?_);refine br (fun g=>absurd (od g) (show¬(4:Int)=2 by decide)) (fun _=>?_);refine br (fun g=>absurd (od g) (show¬(4:Int)=3 by decide)) (fun _=>?_);refine br (fun _=>?_) (fun g=>absurd (show(4:Int)=4 from rfl) (oe g));refine⟨⟨by decide,by decide⟩,?_⟩;conv=>whnf
   by_cases hgt:n0>d
   ·have a:=G hgt;refine bri hgt ⟨⟨by decide,by decide⟩,nb rfl,[encL (t,0,n,m,q)],rfl,rfl,rfl,by show 1*48<=140737488355328;omega,fun c' hc=>?_⟩;exact⟨⟨(k+1,([])++[(t,0,n,m,q)],c'),u,a⟩,i,leR [(5,8)] K M rfl ⟨tv,zci _,zbc,zai (by omega) _,zai (by omega) _,zab zaf _ _ _ _ _,tv⟩ ⟨cnt j,tv⟩ ⟨Fz.r F,rfl,rfl,rfl,zda (μ:=sig [(5,8)]) rfl rfl,zaj zaf (za3 _ (by simp)),tv⟩⟩
   ·have a:=I hgt;refine brj hgt ⟨nb rfl,[encL (t,n0,n,m,q)],rfl,rfl,rfl,by show 1*48<=140737488355328;omega,fun c' hc=>?_⟩;exact⟨⟨(k+1,([])++[(t,n0,n,m,q)],c'),u,a⟩,i,leR [(5,8)] K M rfl ⟨tv,zci _,zbc,zai (by omega) _,zai (by omega) _,zab zaf _ _ _ _ _,tv⟩ ⟨cnt j,tv⟩ ⟨Fz.r F,rfl,rfl,rfl,zda (μ:=sig [(5,8)]) rfl rfl,zaj zaf (za3 _ (by simp)),tv⟩⟩
  ·have W:(D.length+1+1)*48<=140737488355328:=by
    have h9:D.length+1=k:=V;omega
   refine bri U ⟨rfl,E,_,hF,_,s,?_⟩;refine br (fun g=>absurd (od g) (show¬(4:Int)=1 by decide)) (fun _=>?_);refine br (fun g=>absurd (od g) (show¬(4:Int)=2 by decide)) (fun _=>?_);refine br (fun g=>absurd (od g) (show¬(4:Int)=3 by decide)) (fun _=>?_);refine br (fun _=>?_) (fun g=>absurd (show(4:Int)=4 from rfl) (oe g));refine⟨⟨by decide,by decide⟩,?_⟩;conv=>whnf
   by_cases hgt:n0>d
   ·have a:=G hgt;refine bri hgt ⟨⟨by decide,by decide⟩,nb rfl,[encL (t,0,n,m,q)],rfl,rfl,rfl,by simp,rfl,W,fun c' hc=>?_⟩;exact⟨⟨(k+1,(O::D)++[(t,0,n,m,q)],c'),u,a⟩,i,leR [(5,8)] K M rfl ⟨tv,zci _,zbc,zai (by omega) _,zai (by omega) _,zab zaf _ _ _ _ _,tv⟩ ⟨cnt j,tv⟩ ⟨Fz.r F,rfl,rfl,rfl,zda (μ:=sig [(5,8)]) rfl rfl,zaj zaf (za3 _ (by simp)),tv⟩⟩
   ·have a:=I hgt;refine brj hgt ⟨nb rfl,[encL (t,n0,n,m,q)],rfl,rfl,rfl,by simp,rfl,W,fun c' hc=>?_⟩;exact⟨⟨(k+1,(O::D)++[(t,n0,n,m,q)],c'),u,a⟩,i,leR [(5,8)] K M rfl ⟨tv,zci _,zbc,zai (by omega) _,zai (by omega) _,zab zaf _ _ _ _ _,tv⟩ ⟨cnt j,tv⟩ ⟨Fz.r F,rfl,rfl,rfl,zda (μ:=sig [(5,8)]) rfl rfl,zaj zaf (za3 _ (by simp)),tv⟩⟩
 ·have T:¬(k:Int) < (L.length:Nat):=by omega
  have ab:k=L.length:=by omega
  rw[ab,qh (qi _)]at B;rw[<-B]at R;clear B V;rcases o with _ | ⟨O,D⟩
  ·refine brj T ?_;exact zef R rfl rfl (Fz.r F)
  ·refine brj T ?_;refine zck 5 (fun _=>.arr 191 5 ((O::D).map encL) co) rfl rfl rfl (fun _ _=>by exact zcy zaf rfl _ _ _ _) (fun _ _=>zbj zaf _ _ _ _ _) ?_;intro b' F' ac hb;exact endFo (.ret (.agg (rvS ⟨false,O::D,0,0,[]⟩ (.slice false 0 (b' 0) 0 5 (D.length+1) co)))) F' rfl ac (Fz.r F') ⟨_,by rw[R],by rw[R];exact Its.new (l:=O::D) (hb 0 ⟨rfl,rfl⟩)⟩ rfl rfl
theorem zxp(F:Fz)(p a:Int)(w h:Int)(bits:List UInt8):
  Fo Tryz.prog F 55 [.va (.int .i64 p),.agg (enc (1,a)),.agg (rvS ⟨false,[],w,h,bits⟩ .nilsl)] (zgl (1,a) ⟨false,[],w,h,bits⟩):=by
 have b:stepR (1,a) ⟨false,[],w,h,bits⟩=⟨false,[],0,0,[]⟩:=rfl;refine foS Tryz.func55 ?_;refine br (fun g=>absurd (od g) (show¬(1:Int)=6 by decide)) (fun _=>?_);refine br (fun g=>absurd (od g) (show¬(1:Int)=5 by decide)) (fun _=>?_);conv=>whnf
 refine zbx hΘ 0 ?_;refine brd (by decide) ?_;exact zef b rfl rfl (Fz.r F)
theorem zxq(F:Fz)(p a:Int)(w h:Int)(bits:List UInt8):
  Fo Tryz.prog F 55 [.va (.int .i64 p),.agg (enc (2,a)),.agg (rvS ⟨false,[],w,h,bits⟩ .nilsl)] (zgl (2,a) ⟨false,[],w,h,bits⟩):=by
 have b:stepR (2,a) ⟨false,[],w,h,bits⟩=⟨false,[],0,0,[]⟩:=rfl;refine foS Tryz.func55 ?_;refine br (fun g=>absurd (od g) (show¬(2:Int)=6 by decide)) (fun _=>?_);refine br (fun g=>absurd (od g) (show¬(2:Int)=5 by decide)) (fun _=>?_);conv=>whnf
 refine zbx hΘ 0 ?_;refine brd (by decide) ?_;exact zef b rfl rfl (Fz.r F)
theorem zxr(F:Fz)(p a:Int)(w h:Int)(bits:List UInt8):
  Fo Tryz.prog F 55 [.va (.int .i64 p),.agg (enc (3,a)),.agg (rvS ⟨false,[],w,h,bits⟩ .nilsl)] (zgl (3,a) ⟨false,[],w,h,bits⟩):=by
 have b:stepR (3,a) ⟨false,[],w,h,bits⟩=⟨false,[],0,0,[]⟩:=rfl;refine foS Tryz.func55 ?_;refine br (fun g=>absurd (od g) (show¬(3:Int)=6 by decide)) (fun _=>?_);refine br (fun g=>absurd (od g) (show¬(3:Int)=5 by decide)) (fun _=>?_);conv=>whnf
 refine zbx hΘ 0 ?_;refine brd (by decide) ?_;exact zef b rfl rfl (Fz.r F)
theorem zxs(F:Fz)(p a:Int)(w h:Int)(bits:List UInt8):
  Fo Tryz.prog F 55 [.va (.int .i64 p),.agg (enc (4,a)),.agg (rvS ⟨false,[],w,h,bits⟩ .nilsl)] (zgl (4,a) ⟨false,[],w,h,bits⟩):=by
 have b:stepR (4,a) ⟨false,[],w,h,bits⟩=⟨false,[],0,0,[]⟩:=rfl;refine foS Tryz.func55 ?_;refine br (fun g=>absurd (od g) (show¬(4:Int)=6 by decide)) (fun _=>?_);refine br (fun g=>absurd (od g) (show¬(4:Int)=5 by decide)) (fun _=>?_);conv=>whnf
 refine zbx hΘ 0 ?_;refine brd (by decide) ?_;exact zef b rfl rfl (Fz.r F)
theorem zrp(F:Fz)(p:Int)(x:Stp)(w h:Int)(bits:List UInt8)(b:List RLn)(a:SA):
  Fo Tryz.prog F 55 [.va (.int .i64 p),.agg (enc x),.agg (rvS ⟨true,b,w,h,bits⟩ a)] (zgl x ⟨true,b,w,h,bits⟩):=by
 have c:stepR x ⟨true,b,w,h,bits⟩=lostR:=if_pos (.inl rfl);refine foS Tryz.func55 ?_;exact zef c rfl rfl (Fz.r F)
theorem z2d(F:Fz)(p c:Int)(w h:Int)(bits:List UInt8)(b:List RLn)(a:SA):
  Fo Tryz.prog F 55 [.va (.int .i64 p),.agg (enc (6,c)),.agg (rvS ⟨false,b,w,h,bits⟩ a)] (zgl (6,c) ⟨false,b,w,h,bits⟩):=by
 have d:stepR (6,c) ⟨false,b,w,h,bits⟩=lostR:=if_pos (.inr rfl);refine foS Tryz.func55 ?_;refine br (fun _=>?_) (fun g=>absurd (show(6:Int)=6 from rfl) (oe g));exact zef d rfl rfl (Fz.r F)
def hbT(W H:Nat)(bits:List UInt8)(r c:Nat)(i:Nat):Bool:=hb W H bits (2*r+i / 2) (2*c+i % 2)
def bitT(W H:Nat)(bits:List UInt8)(r c:Nat):Nat->UInt8
 |0=>48
 |i+1=>if hbT W H bits r c i=true then 49 else bitT W H bits r c i
theorem bitT4(W H:Nat)(bits:List UInt8)(r c:Nat):bitT W H bits r c 4=zfm W H bits r c:=by
 unfold zfm hb4;show(if hb W H bits (2*r+1) (2*c+1)=true then 49 else if hb W H bits (2*r+1) (2*c+0)=true then 49 else if hb W H bits (2*r+0) (2*c+1)=true then 49 else if hb W H bits (2*r+0) (2*c+0)=true then 49 else(48:UInt8))=_;simp only[qau];cases hb W H bits (2*r) (2*c)<;>cases hb W H bits (2*r) (2*c+1)<;>cases hb W H bits (2*r+1) (2*c)<;>cases hb W H bits (2*r+1) (2*c+1)<;>rfl
abbrev pr2(x y:Int):List SA:=[.int .i64 x,.int .i64 y]
abbrev rows4:List (List SA):=[pr2 0 0,pr2 0 1,pr2 1 0,pr2 1 1]
theorem z7h{i:Nat}(h:i < 4):rows4[0+(i:Int).toNat]? =some (pr2 (i / 2:Nat) (i % 2:Nat)):=by
 have a:i=0\/i=1\/i=2\/i=3:=by omega
 rcases a with rfl | rfl | rfl | rfl<;>rfl
theorem zft{n:Nat}:(Ent.one (.arr 24 2 rows4 4)).below n:=(SB.bB_ok rfl:SB.below n (.arr 24 2 rows4 4))
def rowsT(W H:Nat)(bits:List UInt8)(r:Nat):List UInt8:=((List.range r).map (zm4 W H bits)).flatten
theorem znq(W H:Nat)(bits:List UInt8)(r:Nat):rowsT W H bits (r+1)=rowsT W H bits r++(List.range ((W+1) / 2)).map (zfm W H bits r):=by
 unfold rowsT;rw[qay,qs,yj];simp[zm4]
theorem zro(W H:Nat)(bits:List UInt8)(r:Nat):(rowsT W H bits r).length=r*((W+1) / 2):=by
 induction r with
 |zero=>simp[rowsT]
 |succ r ih=>rw[znq,qd,ih,qa2];simp
theorem zsu(W H:Nat)(bits:List UInt8)(r c:Nat):(List.range c).map (zfm W H bits r)++[zfm W H bits r c]=(List.range (c+1)).map (zfm W H bits r):=by
 rw[qay,qs];rfl
theorem hb_no{W H:Nat}{bits:List UInt8}{i k:Nat}(h:¬(i < H/\k < W)):hb W H bits i k=false:=by
 apply Classical.byContradiction;intro b;have a:=hb_iff.1 (by simpa using b);exact h ⟨a.1,a.2.1⟩
theorem zit{n:Nat}(h:n<=32):IntKind.i64.wrap ((IntKind.i64.wrap ((n:Int)+1)).tdiv 2)=(((n+1) / 2:Nat):Int):=by
 rw[show IntKind.i64.wrap ((n:Int)+1)=(n:Int)+1 from zah (by omega) (by omega),ji (by omega),zah (by omega) (by omega)];omega
theorem zux{r x:Nat}(a:r<=32)(b:x<=1):IntKind.i64.wrap (IntKind.i64.wrap (2*(r:Int))+(x:Int))=((2*r+x:Nat):Int):=by
 rw[show IntKind.i64.wrap (2*(r:Int))=2*(r:Int)from zah (by omega) (by omega),zah (by omega) (by omega)];omega
theorem z9h{i k W:Nat}(c:i<=64)(d:k<=64)(b:W<=32):IntKind.i64.wrap (IntKind.i64.wrap ((i:Int)*(W:Int))+(k:Int))=((i*W+k:Nat):Int):=by
 have h1:i*W<=64*32:=qav c b;have a:(i:Int)*(W:Int)=((i*W:Nat):Int):=(qa5 i W).symm;rw[a,show IntKind.i64.wrap ((i*W:Nat):Int)=((i*W:Nat):Int)from zah (by omega) (by omega),zah (by omega) (by omega)];omega
theorem ycw{i k W H:Nat}(a:i < H)(b:k < W):i*W+k < W*H:=by
 have h1:(i+1)*W<=H*W:=y6 W a;rw[qa2,qab H W]at h1;omega
def rawE(W H:Nat)(bits:List UInt8):Ent:=.one (.cells 110 (rvS ⟨false,[],(W:Nat),(H:Nat),bits⟩ .nilsl))
theorem zcu{n W H:Nat}{bits:List UInt8}:(rawE W H bits).below n:=(SB.bB_ok rfl:SB.below n (.cells 110 (rvS ⟨false,[],(W:Nat),(H:Nat),bits⟩ .nilsl)))
theorem zuq{F:Fz}{v r:RVal}{h:Hp}{nx:Nat}(c:halRV v=r)(b:lget h 0=some (.frz F)):
  Cln 1 (FoK F fun o a=>o=.ret (.agg (rvS (halRV v) .nilsl))/\a=F) (.ret (.agg (rvS r .nilsl))) h nx:=by
 subst c;exact endPu b (Fz.r F) (zal _) rfl
theorem zxb(F:Fz)(W H:Nat)(e:W<=32)(d:H<=32):
  Fo Tryz.prog F 122 [.agg (rvS ⟨false,[],(W:Nat),(H:Nat),[]⟩ .nilsl)] (fun o c=>o=.ret (.agg (rvS (halRV ⟨false,[],(W:Nat),(H:Nat),[]⟩) .nilsl))/\c=F):=by
 have b:=zit e;have hh:=zit d
 have a:halRV ⟨false,[],(W:Nat),(H:Nat),[]⟩=⟨false,[],IntKind.i64.wrap ((IntKind.i64.wrap ((W:Int)+1)).tdiv 2),IntKind.i64.wrap ((IntKind.i64.wrap ((H:Int)+1)).tdiv 2),[]⟩:=by
  rw[b,hh];show RVal.mk false [] (((W:Nat)+1:Int) / 2) (((H:Nat)+1:Int) / 2) []=_
  congr 1
 clear b hh;refine foS Tryz.func122 ?_;refine⟨by decide,by decide,?_⟩;conv=>whnf
 refine zbx hΘ 0 ?_;refine⟨fun _=>?_,fun _=>?_⟩
 ·refine br (fun g=>absurd g (by show¬(!([]:List UInt8)==[])=true;decide)) (fun _=>?_);exact zuq a rfl
 ·exact zuq a rfl
theorem zxc(F:Fz)(W H:Nat)(bits:List UInt8)(hW:W<=32)(J:H<=32)(an:bits≠[])(al:bits.length=W*H):
  Fo Tryz.prog F 122 [.agg (rvS ⟨false,[],(W:Nat),(H:Nat),bits⟩ .nilsl)] (fun o F'=>o=.ret (.agg (rvS (halRV ⟨false,[],(W:Nat),(H:Nat),bits⟩) .nilsl))/\F'=F):=by
 have hw:=zit hW;have hh:=zit J;obtain⟨w,I⟩:∃w,(W+1) / 2=w:=⟨_,rfl⟩
 obtain⟨s,ak⟩:∃h,(H+1) / 2=h:=⟨_,rfl⟩
 have ar:w<=16:=by omega
 have a8:s<=16:=by omega
 rw[I]at hw;rw[ak]at hh
 have hr:∀t,t=rowsT W H bits s->halRV ⟨false,[],(W:Nat),(H:Nat),bits⟩=⟨false,[],IntKind.i64.wrap ((IntKind.i64.wrap ((W:Int)+1)).tdiv 2),IntKind.i64.wrap ((IntKind.i64.wrap ((H:Int)+1)).tdiv 2),t⟩:=fun t ht=>by
  rw[hw,hh,ht];show RVal.mk false [] (((W:Nat)+1:Int) / 2) (((H:Nat)+1:Int) / 2) (if bits=[]then []else zh1 W H bits)=_;rw[if_neg an];unfold zh1 rowsT;rw[ak]
  congr 1<;>omega
 refine foS Tryz.func122 ?_;refine⟨by decide,by decide,?_⟩;conv=>whnf
 refine zak hΘ (X:={ y:Nat×List UInt8×Nat // y.1<=s/\y.2.1=rowsT W H bits y.1 }) (fun y=>[(5,.va (gA 1 3 y.1.2.2 y.1.2.1)),(6,.va (.int .i64 y.1.1))]) (7::8::10::11::12::jr 21 62 [])
  (fun y=>[(0,.frz F),(1,rawE W H bits),(2,rvalE ⟨false,[],0,0,[]⟩ 0 0),(3,gE 5 1 encB y.1.2.2 y.1.2.1)]) 4 (fun y=>s - y.1.1) ⟨(0,[],0),by simp[rowsT]⟩
  (fun J B=>leI [(3,3)] J B rfl ⟨tv,zcu,zai (by omega) _,zab zaa _ _ _ _ _,tv⟩ ⟨rfl,rfl,tv⟩ ⟨Fz.r F,rfl,rfl,rfl,tv⟩) ?_
 rintro⟨⟨r,o,co⟩,ap,ho⟩ ac B;replace ap:r<=s:=ap;replace ho:o=rowsT W H bits r:=ho;have ao:=zro W H bits r;rw[I,<-ho]at ao;have a9:r*w<=16*16:=qav (by omega) ar;by_cases gr:r < s
 ·have G:(r:Int) < IntKind.i64.wrap ((IntKind.i64.wrap ((H:Int)+1)).tdiv 2):=by rw[hh];omega
  have aq:r+1<=s:=gr;have L:s - (r+1) < s - r:=by omega
  have Q:r < 4611686018427387904:=by omega
  have Z:o=rowsT W H bits r++(List.range 0).map (zfm W H bits r):=by rw[ho];simp
  have am:(!(bits==[]))=true:=by simpa using an
  refine⟨fun _=>?_,fun g=>absurd G (oe g)⟩;refine br (fun _=>?_) (fun g=>absurd am (by rw[g];simp));conv=>whnf
  clear am ao ho G hr
  refine zak hΘ (X:={ y:Nat×List UInt8×Nat // y.1<=w/\y.2.1=rowsT W H bits r++(List.range y.1).map (zfm W H bits r) }) (fun y=>[(5,.va (gA 1 4 y.1.2.2 y.1.2.1)),(7,.va (.int .i64 y.1.1))]) (8::10::11::12::jr 31 52 [])
   (fun y=>[(0,.frz F),(1,rawE W H bits),(2,rvalE ⟨false,[],0,0,[]⟩ 0 0),(3,.gone),(4,gE 5 1 encB y.1.2.2 y.1.2.1)]) 5 (fun y=>w - y.1.1) ⟨(0,o,co),⟨yh _,Z⟩⟩
   (fun J B=>by
    rcases o with _ | ⟨o0,e⟩
    ·exact leI [(4,3)] J B rfl ⟨tv,zcu,zai (by omega) _,tv,zab zaa _ _ _ _ _,tv⟩ ⟨rfl,rfl,tv⟩ ⟨Fz.r F,rfl,rfl,zaj zaa (zao _ _ _ _),tv⟩
    ·exact leI [(4,3)] J B rfl ⟨tv,zcu,zai (by omega) _,tv,zab zaa _ _ _ _ _,tv⟩ ⟨⟨rfl,rfl,rfl,.inr ⟨rfl,rfl,rfl,rfl⟩⟩,rfl,tv⟩ ⟨Fz.r F,rfl,rfl,zaj zaa (zao _ _ _ _),tv⟩) ?_
  rintro⟨⟨c,q,cq⟩,hc,hq⟩ ab ad;replace hc:c<=w:=hc;replace hq:q=rowsT W H bits r++(List.range c).map (zfm W H bits r):=hq;by_cases gc:c < w
  ·have a2:(c:Int) < IntKind.i64.wrap ((IntKind.i64.wrap ((W:Int)+1)).tdiv 2):=by rw[hw];omega
   refine bri a2 ?_;conv=>whnf
   have ae:c+1<=w:=gc;have p:w - (c+1) < w - c:=by omega
   have K:c < 4611686018427387904:=by omega
   have a4:q.length<=272:=by
    rw[hq,qd,zro,qe,List.length_range,I];omega
   have aa:q++[zfm W H bits r c]=rowsT W H bits r++(List.range (c+1)).map (zfm W H bits r):=by
    rw[hq,qp,zsu]
   refine zak hΘ (X:={ i:Nat // i<=4 }) (fun i=>[(8,.va (.int .u8 (bitT W H bits r c i.1).toNat)),(42,.va (.int .i64 i.1))]) (10::11::12::jr 43 36 [])
    (fun _=>[(0,.frz F),(1,rawE W H bits),(2,rvalE ⟨false,[],0,0,[]⟩ 0 0),(4,gE 5 1 encB cq q),(5,.one (.arr 24 2 rows4 4))]) 6 (fun i=>4 - i.1) ⟨0,yh _⟩
    (fun J B=>leI [] J B rfl ⟨tv,zcu,zai (by omega) _,zab zaa _ _ _ _ _,zft,tv⟩ ⟨rfl,rfl,tv⟩ ⟨Fz.r F,rfl,rfl,zaj zaa (zao _ _ _ _),rfl,tv⟩) ?_
   rintro⟨i,hi⟩ A D;replace hi:i<=4:=hi;by_cases gi:i < 4
   ·have a3:(i:Int) < 4:=by omega
    have a1:0<=(i:Int)/\(i:Int) < 4:=by omega
    have ag:=z7h gi;have E:i+1<=4:=gi;have d:4 - (i+1) < 4 - i:=by omega
    have l:i < 4611686018427387904:=by omega
    have a7:∃x y,i / 2=x/\i % 2=y:=⟨_,_,rfl,rfl⟩
    obtain⟨m,n,au,av⟩:=a7;have S:m<=1/\n<=1:=by omega
    rw[au,av]at ag;have ei:=zux (r:=r) (x:=m) (by omega) S.1;have ek:=zux (r:=c) (x:=n) (by omega) S.2
    have a:bitT W H bits r c (i+1)=if hb W H bits (2*r+m) (2*c+n)=true then 49 else bitT W H bits r c i:=by
     rw[<-au,<-av];rfl
    refine bri a3 ⟨rfl,a1,_,ag,⟨by decide,by decide⟩,⟨by decide,by decide⟩,?_⟩;conv=>whnf
    by_cases T:2*r+m < H
    ·have hA:IntKind.i64.wrap (IntKind.i64.wrap (2*(r:Int))+(m:Int)) < (H:Int):=by rw[ei];omega
     by_cases gB:2*c+n < W
     ·have hB:IntKind.i64.wrap (IntKind.i64.wrap (2*(c:Int))+(n:Int)) < (W:Int):=by rw[ek];omega
      have U:=z9h (i:=2*r+m) (k:=2*c+n) (W:=W) (by omega) (by omega) hW;rw[<-ei,<-ek]at U;have G:=ycw T gB;have ai:0<=IntKind.i64.wrap (IntKind.i64.wrap (IntKind.i64.wrap (IntKind.i64.wrap (2*(r:Int))+(m:Int))*(W:Int))+IntKind.i64.wrap (IntKind.i64.wrap (2*(c:Int))+(n:Int))):=by rw[U];omega
      have aw:∃b,bits[(2*r+m)*W+(2*c+n)]? =some b:=⟨_,qa (by rw[al];exact G)⟩
      obtain⟨bb,V⟩:=aw;have aj:bits[(IntKind.i64.wrap (IntKind.i64.wrap (IntKind.i64.wrap (IntKind.i64.wrap (2*(r:Int))+(m:Int))*(W:Int))+IntKind.i64.wrap (IntKind.i64.wrap (2*(c:Int))+(n:Int)))).toNat]? =some bb:=by rw[U,qk];exact V
      refine⟨fun _=>?_,fun g=>absurd hA (oe g)⟩;refine⟨fun _=>?_,fun g=>absurd hB (oe g)⟩;refine⟨ai,bb,aj,?_⟩;conv=>whnf
      by_cases u:(bb.toNat:Int)=49
      ·have f:hb W H bits (2*r+m) (2*c+n)=true:=hb_iff.2 ⟨T,gB,by rw[V,u8_eq (by decide) u];rfl⟩;rw[if_pos f]at a;refine bri u ?_;exact⟨⟨i+1,E⟩,d,leR [] A D rfl ⟨tv,zcu,zai (by omega) _,zab zaa _ _ _ _ _,zft,tv⟩ ⟨congrArg (fun b:UInt8=>SA.int .u8 (b.toNat:Int)) a,cnt l,tv⟩ ⟨Fz.r F,rfl,rfl,zaj zaa (zao _ _ _ _),rfl,tv⟩⟩
      ·have f:¬hb W H bits (2*r+m) (2*c+n)=true:=fun h=>by
        have h2:=(hb_iff.1 h).2.2;rw[V]at h2;apply u;rw[Option.some.inj h2];rfl
       rw[if_neg f]at a;refine brj u ?_;exact⟨⟨i+1,E⟩,d,leR [] A D rfl ⟨tv,zcu,zai (by omega) _,zab zaa _ _ _ _ _,zft,tv⟩ ⟨congrArg (fun b:UInt8=>SA.int .u8 (b.toNat:Int)) a,cnt l,tv⟩ ⟨Fz.r F,rfl,rfl,zaj zaa (zao _ _ _ _),rfl,tv⟩⟩
     ·have hB:¬IntKind.i64.wrap (IntKind.i64.wrap (2*(c:Int))+(n:Int)) < (W:Int):=by rw[ek];omega
      have f:¬hb W H bits (2*r+m) (2*c+n)=true:=by rw[hb_no (fun h=>gB h.2)];simp
      rw[if_neg f]at a;refine⟨fun _=>?_,fun g=>absurd hA (oe g)⟩;refine⟨fun g=>absurd (od g) hB,fun _=>?_⟩;exact⟨⟨i+1,E⟩,d,leR [] A D rfl ⟨tv,zcu,zai (by omega) _,zab zaa _ _ _ _ _,zft,tv⟩ ⟨congrArg (fun b:UInt8=>SA.int .u8 (b.toNat:Int)) a,cnt l,tv⟩ ⟨Fz.r F,rfl,rfl,zaj zaa (zao _ _ _ _),rfl,tv⟩⟩
    ·have hA:¬IntKind.i64.wrap (IntKind.i64.wrap (2*(r:Int))+(m:Int)) < (H:Int):=by rw[ei];omega
     have f:¬hb W H bits (2*r+m) (2*c+n)=true:=by rw[hb_no (fun h=>T h.1)];simp
     rw[if_neg f]at a;refine⟨fun g=>absurd (od g) hA,fun _=>?_⟩;exact⟨⟨i+1,E⟩,d,leR [] A D rfl ⟨tv,zcu,zai (by omega) _,zab zaa _ _ _ _ _,zft,tv⟩ ⟨congrArg (fun b:UInt8=>SA.int .u8 (b.toNat:Int)) a,cnt l,tv⟩ ⟨Fz.r F,rfl,rfl,zaj zaa (zao _ _ _ _),rfl,tv⟩⟩
   ·have O:¬(i:Int) < 4:=by omega
    have a0:i=4:=by omega
    subst a0;rw[<-bitT4]at aa;rcases q with _ | ⟨q0,qr⟩
    ·refine brj O ⟨nb rfl,[encB (bitT W H bits r c 4)],rfl,rfl,rfl,by show 1*1<=140737488355328;omega,fun c' ax=>?_⟩;exact⟨⟨(c+1,[]++[bitT W H bits r c 4],c'),ae,aa⟩,p,leRn [_,_,_] [_,_] [(4,7)] ab ad rfl ⟨tv,zcu,zai (by omega) _,tv,zab zaa _ _ _ _ _,tv⟩ ⟨zdh (μ:=sig [(4,7)]) (i:=4) (j:=7) rfl 1 c' _ [] (bitT W H bits r c 4) rfl,cnt K,tv⟩ ⟨Fz.r F,rfl,rfl,zaj zaa (za3 _ (by simp)),tv⟩⟩
    ·have a6:(qr.length+1+1)*1<=140737488355328:=by
      have h9:qr.length+1<=272:=a4;omega
     refine brj O ⟨nb rfl,[encB (bitT W H bits r c 4)],rfl,rfl,rfl,by simp,rfl,a6,fun c' ax=>?_⟩;exact⟨⟨(c+1,(q0::qr)++[bitT W H bits r c 4],c'),ae,aa⟩,p,leRn [_,_,_] [_,_] [(4,7)] ab ad rfl ⟨tv,zcu,zai (by omega) _,tv,zab zaa _ _ _ _ _,tv⟩ ⟨zdh (μ:=sig [(4,7)]) (i:=4) (j:=7) rfl 1 c' _ (q0::qr) (bitT W H bits r c 4) rfl,cnt K,tv⟩ ⟨Fz.r F,rfl,rfl,zaj zaa (za3 _ (by simp)),tv⟩⟩
  ·have az:¬(c:Int) < IntKind.i64.wrap ((IntKind.i64.wrap ((W:Int)+1)).tdiv 2):=by rw[hw];omega
   have ay:c=w:=by omega
   have R:q=rowsT W H bits (r+1):=by rw[znq,I,<-ay];exact hq
   clear hq;refine brj az ?_;conv=>whnf
   rcases q with _ | ⟨q0,qr⟩
   ·exact⟨⟨(r+1,[],cq),aq,R⟩,L,leRn [_,_,_] [_,_] [(3,4)] ac B rfl ⟨tv,zcu,zai (by omega) _,zab zaa _ _ _ _ _,tv⟩ ⟨rfl,cnt Q,tv⟩ ⟨Fz.r F,rfl,rfl,zaj zaa (zao _ _ _ _),tv⟩⟩
   ·exact⟨⟨(r+1,q0::qr,cq),aq,R⟩,L,leRn [_,_,_] [_,_] [(3,4)] ac B rfl ⟨tv,zcu,zai (by omega) _,zab zaa _ _ _ _ _,tv⟩ ⟨⟨rfl,rfl,rfl,.inr ⟨rfl,rfl,rfl,rfl⟩⟩,cnt Q,tv⟩ ⟨Fz.r F,rfl,rfl,zaj zaa (zao _ _ _ _),tv⟩⟩
 ·have ah:¬(r:Int) < IntKind.i64.wrap ((IntKind.i64.wrap ((H:Int)+1)).tdiv 2):=by rw[hh];omega
  have a5:r=s:=by omega
  rw[a5]at ho;have M:=hr o ho;rcases o with _ | ⟨o0,e⟩
  ·refine⟨fun g=>absurd (od g) ah,fun _=>?_⟩;exact zuq M rfl
  ·have Y:(((o0::e).map encB).drop 0).take (e.length+1)=(o0::e).map encB:=by rw[y8,qh (by simp)]
   have af:0+(e.length+1)<=((o0::e).map encB).length:=by simp
   refine⟨fun g=>absurd (od g) ah,fun _=>?_⟩;refine⟨rfl,af,(o0::e).map encB,Y,o0::e,rfl,?_⟩;exact zuq M rfl
end Go.Proofs.YtfnkamphhpldcaaGreatDoor
namespace Go.Proofs.YtfnkamphhpldcaaGreatDoor
open Go Sx
def ROK(p:Int)(v:RVal):Prop:=VOK p (ofV p v)/\∀y∈v.lines,p≠1->y.1=[]
theorem z6w{p:Int}(h:p≠1)(s:List UInt8)(q:Int):(rdL p s q).1.1=[]:=by
 unfold rdL;rw[if_neg h];split
 ·rfl
 ·split<;>rfl
theorem zll{p:Int}(b:p≠1)(s:List UInt8):∀(f:Nat) (acc:List RLn) (q:Int) (l:List RLn) (a:Int),(∀x∈acc,x.1=[])->zbh p s f acc q=some (l,a)->∀x∈l,x.1=[]
 |0,acc,q,l,a,ha,h=>by
  rw[zbh,Option.some.injEq,Prod.mk.injEq]at h;rw[<-h.1];exact ha
 |f+1,acc,q,l,a,ha,h=>by
  rw[zbh]at h;split at h
  ·cases h
  ·refine zll b s f _ _ l a (fun x hx=>?_) h;rcases yk.1 hx with hx | hx
   ·exact ha x hx
   ·rw[qz.1 hx];exact z6w b s q
theorem zs8{p:Int}{s:List UInt8}{v:RVal}(h:zi3 p s=some v):v.lines=[]:=by
 unfold zi3 at h;dsimp only at h;by_cases a:p=7
 ·simp only[if_pos a]at h
  repeat' split at h
  all_goals first | (cases h;done) | (cases h;rfl)
 ·simp only[if_neg a]at h
  repeat' split at h
  all_goals first | (cases h;done) | (cases h;rfl)
theorem zw9{p:Int}{s:List UInt8}{v:RVal}(h:readR p s=some v):∀y∈v.lines,p≠1->y.1=[]:=by
 unfold readR at h;split at h
 ·cases h
 split at h
 ·cases h;intro y a;simp at a
 split at h
 ·rw[zs8 h];intro y a;simp at a
 split at h
 ·cases h
 split at h
 ·cases h
 ·rename_i l q b;split at h
  ·cases h
   intro y a c;exact zll c s _ _ _ _ _ (fun x d=>by simp at d) b y a
  ·cases h
theorem z7b{p:Int}{s:List UInt8}{v:RVal}(h:readR p s=some v):(1<=p/\p<=8)/\ROK p v:=by
 have a:=z1p p s;rw[h]at a;have b:=zks a.symm;exact⟨b.1,b.2,zw9 h⟩
theorem z3u(p:Int):ROK p lostR:=⟨.inl rfl,fun y a=>by cases a⟩
theorem zwg{p:Int}{v:RVal}(h:ROK p v)(b:v.lost=true):v.lines=[]:=by
 have e:=znz h.1 b;have a:v.lines.map (ofR p)=[]:=congrArg Val.lines e;simpa using a
theorem z3v{p:Int}{x:Stp}{v:RVal}(l:1<=p/\p<=8)(a:zbl p x=true)(m:ROK p v):ROK p (stepR x v):=by
 by_cases j:v.lost=true
 ·have e:stepR x v=lostR:=if_pos (.inl j);rw[e];exact z3u p
 have d:v.lost=false:=by simpa using j
 refine⟨by rw[z3b l a m.1 d];exact zn0 l a m.1 d,?_⟩;intro y c b;by_cases i:x.1=6
 ·have e:stepR x v=lostR:=if_pos (.inr i);rw[e]at c;cases c
 have o:¬(v.lost=true\/x.1=6):=by
  rintro(h | h)
  ·exact j h
  ·exact i h
 by_cases g:x.1=5
 ·have e:stepR x v=halRV v:=by rw[stepR,if_neg o,if_pos g]
  rw[e]at c;cases c
 have e:stepR x v=⟨false,v.lines.map (zdl x),0,0,[]⟩:=by rw[stepR,if_neg o,if_neg g]
 rw[e]at c;obtain⟨z,s,rfl⟩:=jj.1 c;have f:=m.2 z s b;obtain⟨k,n⟩:=x;rcases zbn l a with⟨rfl,h,_⟩ | ⟨rfl,h,_⟩ | ⟨rfl,h,q⟩ | ⟨rfl,h,q⟩ | ⟨rfl,h,_⟩ | ⟨rfl,_⟩
 ·exact absurd h b
 ·exact absurd h b
 ·exact f
 ·exact f
 ·exact absurd rfl g
 ·exact absurd rfl i
theorem zx7{p:Int}(a:1<=p/\p<=8):∀(l:List Stp) (v:RVal),(∀x∈l,zbl p x=true)->ROK p v->ROK p (runR l v)
 |[],_,_,h=>h
 |x::r,v,hok,h=>zx7 a r _ (fun y b=>hok y (by simp[b])) (z3v a (hok x (by simp)) h)
theorem zlm{p:Int}:∀{l acc:List Ln},lnsOk p acc l->∀x∈l,lnOk p [] x
 |y::r,acc,h,x,hx=>by
  rcases qn.1 hx with rfl | hx
  ·have h1:=h.1;unfold lnOk at*;split
   ·rename_i a;rw[if_pos a]at h1;exact h1
   ·rename_i a;rw[if_neg a]at h1;exact⟨h1.1,h1.2.1,h1.2.2.1,fun _ y b=>by cases b⟩
  ·exact zlm h.2 x hx
theorem zpq{p:Int}{v:RVal}(m:1<=p/\p<=5)(h:ROK p v)(l:v.lost=false):v.lines.length<=64/\(∀y∈v.lines,y.1.length<=80)/\(p=3\/p=5->∀y∈v.lines,i64 y.2.2.2.1):=by
 obtain⟨_,_,_,i,j⟩:=ze1 h.1 l m.2;have e:∀y∈v.lines,lnOk p [] (ofR p y):=fun y d=>zlm j _ (jj.2 ⟨y,d,rfl⟩)
 refine⟨by have a:(v.lines.map (ofR p)).length<=64:=i;rw[qe]at a;exact a,fun y d=>?_,fun g y d=>?_⟩
 ·by_cases h1:p=1
  ·have a:=e y d;unfold lnOk at a;rw[if_pos h1]at a;have c:=a.2.1;unfold ofR at c;rw[if_pos h1]at c;exact c
  ·rw[h.2 y d h1];exact yh _
 ·have a:=e y d;unfold lnOk at a;rw[if_neg (by omega)]at a;have c:=a.2.2.1;obtain⟨t,n0,f,b,n⟩:=y;rcases g with rfl | rfl
  ·have k:((0:Int)<=n0/\n0<=31)/\((0:Int)<=f/\f<=31)/\((-1000000:Int)<=b/\b<=1000000)/\True:=c;exact⟨by show -9223372036854775808<=b;omega,by show b<=9223372036854775807;omega⟩
  ·have k:((0:Int)<=n0/\n0<=31)/\((0:Int)<=f/\f<=31)/\((-1000000000000:Int)<=b/\b<=1000000000000)/\True:=c;exact⟨by show -9223372036854775808<=b;omega,by show b<=9223372036854775807;omega⟩
end Go.Proofs.YtfnkamphhpldcaaGreatDoor
namespace Go.Proofs.YtfnkamphhpldcaaGreatDoor
open Go Sx
set_option maxRecDepth 100000
theorem Its.nil_of{F:Fz}{a:SA}(h:Its F a []):a=.nilsl:=by
 rcases h with h | ⟨h,_⟩
 ·exact h.2
 ·exact absurd rfl h
theorem z2c(F:Fz)(p x:Int)(v:RVal)(a:SA)(B:p=6\/p=7)(D:ROK p v)(n:v.lost=false)(A:Its F a v.lines):
  Fo Tryz.prog F 55 [.va (.int .i64 p),.agg (enc (5,x)),.agg (rvS v a)] (zgl (5,x) v):=by
 obtain⟨h1,l,s,i⟩:=zf7 D.1 n B;obtain⟨k,c,w,h,bits⟩:=v;replace n:k=false:=n;subst n
 have u:c=[]:=by
  have m:c.map (ofR p)=[]:=h1;simpa using m
 subst u;have e:=Its.nil_of A;subst e;replace l:0<=w/\w<=32:=l;replace s:min w 1<=h/\h<=min w 1*32:=s;have J:∃W:Nat,w=(W:Int):=⟨w.toNat,(yx l.1).symm⟩
 obtain⟨W,rfl⟩:=J;have I:∃H:Nat,h=(H:Int):=⟨h.toNat,(yx (by omega)).symm⟩
 obtain⟨H,rfl⟩:=I;have f:W<=32:=by omega
 have d:H<=32:=by omega
 have j:Fo Tryz.prog F 122 [.agg (rvS ⟨false,[],(W:Nat),(H:Nat),bits⟩ .nilsl)] (fun o G=>o=.ret (.agg (rvS (halRV ⟨false,[],(W:Nat),(H:Nat),bits⟩) .nilsl))/\G=F):=by
  by_cases hb:bits=[]
  ·subst hb;exact zxb F W H f d
  ·refine zxc F W H bits f d hb ?_;rcases B with rfl | rfl
   ·rw[if_neg (by decide)]at i;exact absurd i hb
   ·rw[if_pos rfl]at i;have m:(bits.length:Int)=(W:Int)*(H:Int):=i.1;rw[<-qa5]at m;exact Int.ofNat.inj m
 have y:stepR (5,x) ⟨false,[],(W:Nat),(H:Nat),bits⟩=halRV ⟨false,[],(W:Nat),(H:Nat),bits⟩:=by
  unfold stepR;rw[if_neg (by rintro(h | h);cases h;exact absurd h (by show¬(5:Int)=6;decide)),if_pos rfl]
 have E:halRV ⟨false,[],(W:Nat),(H:Nat),bits⟩=⟨false,[],((W:Int)+1) / 2,((H:Int)+1) / 2,if bits=[]then []else zh1 W H bits⟩:=rfl;have q:∃w h b,halRV ⟨false,[],(W:Nat),(H:Nat),bits⟩=⟨false,[],w,h,b⟩:=⟨_,_,_,E⟩
 obtain⟨M,L,K,q⟩:=q;rw[q]at j y;clear q E h1 l s i A D;refine foS Tryz.func55 ?_;refine br (fun g=>absurd (od g) (show¬(5:Int)=6 by decide)) (fun _=>?_);refine br (fun _=>?_) (fun g=>absurd (show(5:Int)=5 from rfl) (oe g));refine usePs j ?_;exact zef y rfl rfl (Fz.r F)
theorem z7j(F:Fz)(p:Int)(x:Stp)(v:RVal)(a:SA)(B:1<=p/\p<=8)(j:zbl p x=true)(K:ROK p v)(J:Its F a v.lines):
  Fo Tryz.prog F 55 [.va (.int .i64 p),.agg (enc x),.agg (rvS v a)] (zgl x v):=by
 by_cases A:v.lost=true
 ·obtain⟨g,d,w,h,bits⟩:=v;replace A:g=true:=A;subst A;exact zrp F p x w h bits d a
 have f:v.lost=false:=by simpa using A
 obtain⟨k,n⟩:=x
 have L:k≠5->k≠6->1<=p/\p<=5:=fun h1 l=>by
  rcases zbn B j with⟨_,h,_⟩ | ⟨_,h,_⟩ | ⟨_,h,_⟩ | ⟨_,h,_⟩ | ⟨h,_⟩ | ⟨h,_⟩
  ·omega
  ·omega
  ·omega
  ·omega
  ·exact absurd h h1
  ·exact absurd h l
 by_cases o:k=5\/k=6
 ·rcases o with rfl | rfl
  ·have s:p=6\/p=7:=by
    rcases zbn B j with⟨h,_⟩ | ⟨h,_⟩ | ⟨h,_⟩ | ⟨h,_⟩ | ⟨_,h,_⟩ | ⟨h,_⟩
    ·exact absurd h (by decide)
    ·exact absurd h (by decide)
    ·exact absurd h (by decide)
    ·exact absurd h (by decide)
    ·exact h
    ·exact absurd h (by decide)
   exact z2c F p n v a s K f J
  ·obtain⟨g,d,w,h,bits⟩:=v;replace f:g=false:=f;subst f;exact z2d F p n w h bits d a
 have I:=L (fun h=>o (.inl h)) (fun h=>o (.inr h));obtain⟨q,D,O⟩:=zpq I K f;obtain⟨g,d,w,h,bits⟩:=v;replace f:g=false:=f;subst f;replace q:d.length<=64:=q;rcases J with⟨h1,l⟩ | ⟨_,b,e,c,X,i,h1,l,u⟩
 ·have E:d=[]:=h1;subst E l;rcases zbn B j with⟨rfl,_,_⟩ | ⟨rfl,_,_⟩ | ⟨rfl,_,_⟩ | ⟨rfl,_,_⟩ | ⟨h,_⟩ | ⟨h,_⟩
  ·exact zxp F p n w h bits
  ·exact zxq F p n w h bits
  ·exact zxr F p n w h bits
  ·exact zxs F p n w h bits
  ·exact absurd (.inl h) o
  ·exact absurd (.inr h) o
 ·subst h1;rcases zbn B j with⟨rfl,_,_⟩ | ⟨rfl,_,_⟩ | ⟨rfl,G,M⟩ | ⟨rfl,_,_⟩ | ⟨h,_⟩ | ⟨h,_⟩
  ·exact zxl F p n d w h bits b e c X i trivial l u q (fun y m=>⟨D y m,fun h=>absurd h (by decide)⟩)
  ·exact zxm F p n d w h bits b e c X i trivial l u q (fun y m=>⟨D y m,fun h=>absurd h (by decide)⟩)
  ·exact zxn F p n d w h bits b e c X i M l u q (fun y m=>⟨D y m,fun _=>O G y m⟩)
  ·exact zxo F p n d w h bits b e c X i trivial l u q (fun y m=>⟨D y m,fun h=>absurd h (by decide)⟩)
  ·exact absurd (.inl h) o
  ·exact absurd (.inr h) o
