import Derived.Test.YtfnkamphhpldcaaGreatDoorK33
import Derived.Test.YtfnkamphhpldcaaGreatDoorK36
import Derived.Test.YtfnkamphhpldcaaGreatDoorK35
import Derived.Test.YtfnkamphhpldcaaGreatDoorK31
set_option maxHeartbeats 64000000
namespace Go.Proofs.YtfnkamphhpldcaaGreatDoor
open Go Sx Tryz
set_option maxRecDepth 100000
theorem cnumG(F:Fz)(s:List UInt8)(p:Int)(h:s.length<=1000000000000000000)(f:i64 p):
  Ct prog 143 [.va (.ptr ⟨1,0,0,0,0⟩)] F [(1,crd s p)] 2
   (fun o d c n0=>F=d/\n0=2/\(((getI s p).2.2=0/\o=.ret (.va (.int .i64 (getI s p).1))/\c=[(1,crd s (getI s p).2.1)])\/(¬(getI s p).2.2=0/\o=.panic (errP 10)/\c=[(1,crd s p)]))):=by
 have b:=nk F s p h f;generalize getI s p=g at*;obtain⟨n,x,e⟩:=g;refine ctS func143 ?_;refine dwS (lk [0,1,2,3,4,5,6,7] (.alt 8 (lk [9,10,11,12,13,14,15] .done) .nil)) [1] ?_;conv=>whnf
 repeat' ((conv=>whnf);first
  |refine⟨rfl,?_⟩
  |refine⟨Fz.r _,rfl,?_⟩
  |refine⟨Fz.r _,rfl,rfl,?_⟩
  |refine⟨⟨by simp,by simp⟩,?_⟩
  |fail)
 refine usePs (b) ?_;refine⟨Fz.r F,rfl,?_⟩;refine useFt (gN F (decide (e=0)) _) ?_;rintro _ _ i ⟨rfl,⟨a,rfl⟩ | ⟨a,rfl⟩⟩
 ·exact clean [] (.ret (.va (.int .i64 n))) F [(1,crd s x)] 2 ⟨Fz.r F,rfl,rfl,.inl ⟨od a,rfl,rfl⟩⟩ (aP _) rfl rfl trivial ⟨dI s _,tv⟩ ⟨Fz.r F,rfl,tv⟩
 ·exact clean [] (.panic (errP 10)) F [(1,crd s p)] 2 ⟨Fz.r F,rfl,rfl,.inr ⟨oe a,rfl,rfl⟩⟩ rfl rfl rfl trivial ⟨dI s _,tv⟩ ⟨Fz.r F,rfl,tv⟩
theorem ctxtG(F:Fz)(s:List UInt8)(p:Int)(h:s.length<=1000000000000000000)(f:i64 p):
  Ct prog 142 [.va (.ptr ⟨1,0,0,0,0⟩)] F [(1,crd s p)] 2
   (fun o d c n0=>F=d/\n0=2/\(((getS s p).2.2=0/\o=.ret (.va (.str (getS s p).1))/\c=[(1,crd s (getS s p).2.1)])\/(¬(getS s p).2.2=0/\o=.panic (errP 10)/\c=[(1,crd s p)]))):=by
 have b:=o5 F s p h f;generalize getS s p=g at*;obtain⟨n,x,e⟩:=g;refine ctS func142 ?_;refine dwS (lk [0,1,2,3,4,5,6,7] (.alt 8 (lk [9,10,11,12,13,14,15] .done) .nil)) [1] ?_;conv=>whnf
 repeat' ((conv=>whnf);first
  |refine⟨rfl,?_⟩
  |refine⟨Fz.r _,rfl,?_⟩
  |refine⟨Fz.r _,rfl,rfl,?_⟩
  |refine⟨⟨by simp,by simp⟩,?_⟩
  |fail)
 refine usePs (b) ?_;refine⟨Fz.r F,rfl,?_⟩;refine useFt (gN F (decide (e=0)) _) ?_;rintro _ _ i ⟨rfl,⟨a,rfl⟩ | ⟨a,rfl⟩⟩
 ·exact clean [] (.ret (.va (.str n))) F [(1,crd s x)] 2 ⟨Fz.r F,rfl,rfl,.inl ⟨od a,rfl,rfl⟩⟩ (aP _) rfl rfl trivial ⟨dI s _,tv⟩ ⟨Fz.r F,rfl,tv⟩
 ·exact clean [] (.panic (errP 10)) F [(1,crd s p)] 2 ⟨Fz.r F,rfl,rfl,.inr ⟨oe a,rfl,rfl⟩⟩ rfl rfl rfl trivial ⟨dI s _,tv⟩ ⟨Fz.r F,rfl,tv⟩
def CertK(s:List UInt8)(o:Out)(b:Fz):Prop:=∃sk a,o=.ret (.tup [.agg (crtS (decC s).1 sk),.va a])/\ClsAt b sk (decC s).1.cl/\(((decC s).2=0/\a=.nilif)\/(((decC s).2=10\/(decC s).2=100)/\a=.ifc 213 (.int .i64 (decC s).2)))
theorem endG{F F1:Fz}{Q:Out->Fz->Prop}{u:Out}{h:Hp}{nx:Nat}(out:Out)(e:lget h 0=some (.frz F1))(b:Fz.le F F1)(g:Q out F1)(f:outE out (u.ren (resP h)))(_:out.z=true)(a:out.below 2):
  Cln 2 (fun o c d n0=>Fz.le F c/\n0=2/\d=[(1,.gone)]/\Q o c) u h nx:=
 clean [] out F1 [(1,.gone)] 2 ⟨b,rfl,rfl,g⟩ (by rw[Out.ren_id (.inr iK) (iK 0)];exact f) rfl rfl a ⟨tv,tv⟩ ⟨by simp only[entE,aget,Ent.ren];rw[e];exact Fz.r F1,tv⟩
abbrev failO(e:Int):Out:=.ret (.tup [.agg [.str [],.str [],.int .i64 0,.slice true 0 0 0 2 0 0],.va (.ifc 213 (.int .i64 e))])
theorem tp(e:Int)(n:Nat):(failO e).below n:=by
 intro c d;simp only[qh,qq,or_false]at d;rcases d with rfl | rfl
 ·intro a b;simp only[qh,qq,or_false]at b;rcases b with rfl | rfl | rfl | rfl
  ·trivial
  ·trivial
  ·trivial
  ·exact .inl rfl
 ·trivial
def crtL(A B:List UInt8)(N:Int)(i c:Nat)(o:List ZC):Ent:=.one (.cells 48 [.str A,.str B,.int .i64 N,gA 2 i c o])
theorem eY{n i:Nat}(h:i < n)(A B:List UInt8)(N:Int)(c:Nat)(o:List ZC):(crtL A B N i c o).below n:=by
 intro a b;simp only[qh,qq,or_false]at b;rcases b with rfl | rfl | rfl | rfl
 ·trivial
 ·trivial
 ·trivial
 ·exact e9 h _ _ _
structure CI(F:Fz)(s A B:List UInt8)(N:Int)(k:Nat)(acc:List Kp)(o:List ZC)(p:Int)(G:Fz):Prop where
 hk:k<=8
 hG:Fz.le F G
 row:RowL G acc o
 len:acc.length=k
 sh:short acc
 pos:0<=p/\p<=s.length
 dec:decC s=dCl s (dEnd s A B N) (8 - k) acc p
theorem CI.start{F:Fz}{s A B:List UInt8}{N p:Int}(b:0<=p/\p<=s.length)(a:decC s=dCl s (dEnd s A B N) 8 [] p):CI F s A B N 0 [] [] p F:=
 ⟨by omega,Fz.r F,RowL.nil,rfl,(fun x c=>nomatch c),b,a⟩
theorem iY:Plain enc:=fun x=>⟨fun μ=>rfl,fun a b=>by
 simp only[enc,qh,qq,or_false]at b;rcases b with rfl | rfl<;>trivial⟩
def clmL(P:Int)(i c:Nat)(a:List Stp):Ent:=.one (.cells 52 [.int .i64 P,gA 2 i c a])
theorem li{n i:Nat}(h:i < n)(P:Int)(c:Nat)(d:List Stp):(clmL P i c d).below n:=by
 intro a b;simp only[qh,qq,or_false]at b;rcases b with rfl | rfl
 ·trivial
 ·exact e9 h _ _ _
structure CJ(s A B:List UInt8)(N:Int)(k:Nat)(acc:List Kp)(m j:Nat)(st:List Stp)(q:Int):Prop where
 hj:j<=m
 len:st.length=j
 pos:0<=q/\q<=s.length
 dec:decC s=dSt s (fun st q=>dCl s (dEnd s A B N) (8 - (k+1)) (acc++[((acc.length:Int)+1,st)]) q) (m - j) st q
theorem AtB.pos{s t:List UInt8}{p q:Int}(h:AtB s p q t)(d:s.length<=1000000000000000000:=by assumption):i64 q:=by
 obtain⟨a,b,c,-⟩:=h;unfold i64;omega
theorem AtB.rng{s t:List UInt8}{p q:Int}(h:AtB s p q t):0<=q/\q<=s.length:=by
 obtain⟨a,b,c,-⟩:=h;omega
theorem AJ(F:Fz)(s:List UInt8)(hs:s.length<=1000000000000000000):
  Ct prog 82 [.va (.ptr ⟨1,0,0,0,0⟩)] F [(1,crd s 0)] 2 (fun o F0 Y n0=>n0=2/\Y=[(1,.gone)]/\CertK s o F0):=by
 have fail:∀(e:Int) (F1:Fz) (h:Hp) (nx:Nat),decC s=(crt0,e)->(e=10\/e=100)->lget h 0=some (.frz F1)->Fz.le F F1->
   Cln 2 (fun o F0 Y n0=>Fz.le F F0/\n0=2/\Y=[(1,.gone)]/\CertK s o F0) (.ret (.tup [.agg [.str [],.str [],.int .i64 0,.nilsl],.va (.ifc 213 (.int .i64 e))])) h nx:=by
  intro e F1 h nx hd he Y w;have hz:resP h 0 0=(0,0):=by simp only[resP,Y]
  refine relE (failO e) (fun ρ x h=>h) (fun _=>tp e _) (endG (failO e) Y w ?_ ?_ rfl (tp e _))
  rotate_left
  ·show outE (failO e) (.ret (.tup [.agg [.str [],.str [],.int .i64 0,.slice true (resP h 0 0).1 (resP h 0 0).2 0 2 0 0],.va (.ifc 213 (.int .i64 e))]));rw[hz];exact aP _
  unfold CertK;rw[hd];exact⟨_,_,rfl,SlR.nil,.inr ⟨he,rfl⟩⟩
 obtain⟨A,p1,x0,M⟩:∃A p1 x0,getS s 0=(A,p1,x0):=⟨_,_,_,rfl⟩
 obtain⟨B,p2,x1,ai⟩:∃B p2 x1,getS s p1=(B,p2,x1):=⟨_,_,_,rfl⟩
 obtain⟨N,p3,x2,aj⟩:∃N p3 x2,getI s p2=(N,p3,x2):=⟨_,_,_,rfl⟩
 have E:=@iT s 0;have I:=@iT s p1;have J:=@ez s p2;have u0:=ctxtG F s 0 hs ⟨by decide,by decide⟩;have u1:=fun h=>ctxtG F s p1 hs h
 have u2:=fun h=>cnumG F s p2 hs h
 have hD:decC s=if x0=0 then(if x1=0 then(if x2=0 then dCl s (dEnd s A B N) 8 [] p3 else(crt0,10))else(crt0,10))else(crt0,10):=by
  rw[decC,M];dsimp only;rw[ai];dsimp only;rw[aj]
 rw[M]at E u0;rw[ai]at I u1;rw[aj]at J u2;dsimp only at E I J u0 u1 u2;clear M ai aj;unfold Ct;refine Ay hΘ func82 rfl dd _ _ rfl rfl rfl ?_;refine rR ?_;refine ec hΘ _ _ _ ?_;refine rR ?_;refine Ez hΘ rfl rfl rfl rfl ?_;refine⟨_,_,rfl,?_⟩;refine ec hΘ _ _ _ ?_;refine useS u0 [(1,1)] ⟨dI s _,tv⟩ ⟨rfl,tv⟩ ?_;rintro O F0 Y n0 w ⟨rfl,rfl,c⟩;rcases c with⟨V,rfl,rfl⟩ | ⟨V,rfl,rfl⟩
 rotate_left
 ·refine⟨rfl,e7 2 3 10 (.inl rfl) rfl rfl dd ?_⟩;exact fail 10 F _ _ (by rw[hD,if_neg V]) (.inl rfl) rfl (Fz.r F)
 have q1:=(E V).pos;refine useS (u1 q1) [(1,1)] ⟨dI s _,tv⟩ ⟨rfl,tv⟩ ?_;rintro O F0 Y n0 w ⟨rfl,rfl,c⟩;rcases c with⟨K,rfl,rfl⟩ | ⟨K,rfl,rfl⟩
 rotate_left
 ·refine⟨rfl,e7 2 3 10 (.inl rfl) rfl rfl dd ?_⟩;exact fail 10 F _ _ (by rw[hD,if_pos V,if_neg K]) (.inl rfl) rfl (Fz.r F)
 have q2:=(I K).pos;refine useS (u2 q2) [(1,1)] ⟨dI s _,tv⟩ ⟨rfl,tv⟩ ?_;rintro O F0 Y n0 w ⟨rfl,rfl,c⟩;rcases c with⟨e2,rfl,rfl⟩ | ⟨e2,rfl,rfl⟩
 rotate_left
 ·refine⟨rfl,e7 2 3 10 (.inl rfl) rfl rfl dd ?_⟩;exact fail 10 F _ _ (by rw[hD,if_pos V,if_pos K,if_neg e2]) (.inl rfl) rfl (Fz.r F)
 have q3:=(J e2).rng;rw[if_pos V,if_pos K,if_pos e2]at hD;clear E I J q1 q2 u0 u1 u2 V K e2;conv=>whnf
 refine mf hΘ (X:={ y:Nat×List Kp×List ZC×Nat×Int×Fz // CI F s A B N y.1 y.2.1 y.2.2.1 y.2.2.2.2.1 y.2.2.2.2.2 }) (fun y=>[(15,.va (.int .i64 y.1.1))]) (4::5::6::jr 16 36 [])
  (fun y=>[(0,.frz y.1.2.2.2.2.2),(1,crd s y.1.2.2.2.2.1),(2,crtL A B N 4 y.1.2.2.2.1 y.1.2.2.1),(3,.one (.cells 125 [.nilif])),(4,gE 52 2 encZ y.1.2.2.2.1 y.1.2.2.1)]) 5 (fun y=>8 - y.1.1) ⟨(0,[],[],0,p3,F),.start q3 hD⟩
  (fun hH hT=>leId [(4,4)] hH hT rfl ⟨tv,dI s _,eY oo _ _ _ _ _,(by intro a S;simp at S;subst S;trivial),bP aD oo _ _ _ _,tv⟩ ⟨rfl,tv⟩ ⟨Fz.r F,rfl,rfl,rfl,rfl,tv⟩) ?_
 rintro⟨⟨k,acc,o,co,p,G⟩,hI⟩ hH hT;replace hI:CI F s A B N k acc o p G:=hI;by_cases g:k < 8
 ·have gi:(k:Int) < 8:=by omega
  have T:8 - (k+1) < 8 - k:=by omega
  have U:k < 4611686018427387904:=by omega
  obtain⟨-,hG,Z,len,sh,pos,d⟩:=hI;have a2:IntKind.i64.wrap ((k:Int)+1)=(acc.length:Int)+1:=by rw[len,aI oo oo]
  rw[show 8 - k=8 - (k+1)+1 by omega,dCl]at d;have M:∃n p1 x0,getI s p=(n,p1,x0):=⟨_,_,_,rfl⟩
  obtain⟨n,p1,x0,M⟩:=M;have u0:=cnumG G s p hs (by unfold i64;omega);have E:=@ez s p;rw[M]at u0 E d;dsimp only at u0 E d;clear M;have hn0:0<=n\/¬0<=n:=Decidable.em _;have hm:∃m:Nat,n.toNat=m:=⟨_,rfl⟩
  obtain⟨m,hm⟩:=hm;rw[hm]at d;refine bri gi ?_;refine useS u0 [(1,1)] ⟨dI s _,tv⟩ ⟨rfl,tv⟩ ?_;rintro O F0 Y n0 w ⟨rfl,rfl,c⟩;rcases c with⟨V,rfl,rfl⟩ | ⟨V,rfl,rfl⟩
  rotate_left
  ·refine⟨rfl,e7 2 3 10 (.inl rfl) rfl rfl dd ?_⟩;exact fail 10 G _ _ (by rw[d,if_neg V]) (.inl rfl) rfl hG
  have q1:=(E V).rng;rw[if_pos V]at d;clear E u0 V;rcases hn0 with hn0 | hn0
  rotate_left
  ·refine⟨fun h=>absurd (od h) hn0,fun _=>?_⟩;refine useFt (gN G _ _) ?_;rintro _ _ lm ⟨rfl,⟨L,rfl⟩ | ⟨L,rfl⟩⟩
   ·cases L
   refine⟨rfl,e7 2 3 100 (.inr rfl) rfl rfl dd ?_⟩;exact fail 100 G _ _ (by rw[d,if_neg (fun h=>hn0 h.1)]) (.inr rfl) rfl hG
  refine⟨fun _=>?_,fun h=>absurd hn0 (oe h)⟩;refine useFt (gN G _ _) ?_;rintro _ _ lm ⟨rfl,⟨L,rfl⟩ | ⟨L,rfl⟩⟩
  rotate_left
  ·refine⟨rfl,e7 2 3 100 (.inr rfl) rfl rfl dd ?_⟩;exact fail 100 G _ _ (by rw[d,if_neg (fun h=>oe L h.2)]) (.inr rfl) rfl hG
  have ax:n<=64:=od L;rw[if_pos ⟨hn0,ax⟩]at d;clear L lm;have a5:n=(m:Int):=by omega
  have a4:m<=64:=by omega
  conv=>whnf
  refine aH hΘ (X:={ y:Nat×List Stp×Nat×Int // CJ s A B N k acc m y.1 y.2.1 y.2.2.2 }) (fun y=>[(32,.va (.int .i64 y.1.1))]) (jr 33 12 [])
   (fun y=>[(0,.frz G),(1,crd s y.1.2.2.2),(5,clmL (IntKind.i64.wrap ((k:Int)+1)) 6 y.1.2.2.1 y.1.2.1),(6,gE 56 2 enc y.1.2.2.1 y.1.2.1)]) 7 (fun y=>m - y.1.1) ⟨(0,[],0,p1),jx _,rfl,q1,d⟩
   (fun hH hT=>leId [(6,6)] hH hT rfl ⟨tv,dI s _,li oo _ _ _,aF iY _ _ _ _ _,tv⟩ ⟨rfl,tv⟩ ⟨Fz.r G,rfl,rfl,rfl,tv⟩) ?_
  rintro⟨⟨j,st,cs,q⟩,hJ⟩ ay az;replace hJ:CJ s A B N k acc m j st q:=hJ;obtain⟨hj,av,aw,f⟩:=hJ;by_cases gj:j < m
  ·have W:(j:Int) < n:=by omega
   have ah:m - (j+1) < m - j:=by omega
   have an:j < 4611686018427387904:=by omega
   have aq:st.length < 64:=by omega
   rw[show m - j=m - (j+1)+1 by omega,dSt]at f;have ac:∃a y1 f1,getI s q=(a,y1,f1):=⟨_,_,_,rfl⟩
   obtain⟨a,y1,f1,ac⟩:=ac;have ab:∃b y2 f2,getI s y1=(b,y2,f2):=⟨_,_,_,rfl⟩
   obtain⟨b,y2,f2,ab⟩:=ab;have u1:=cnumG G s q hs (by unfold i64;omega);have u2:=fun h=>cnumG G s y1 hs h
   have I:=@ez s q;have J:=@ez s y1;rw[ac]at u1 I f;rw[ab]at u2 J;dsimp only at u1 u2 I J f;rw[ab]at f;dsimp only at f;clear ac ab;have a3:1*16<=140737488355328:=by decide
   rcases st with _ | ⟨s0,Q⟩
   all_goals
    refine bri W ?_;refine dwS (lk [0,1,2,4] (.alt 3 (.alt 5 (.alt 6 (.alt 7 (.alt 8 (.look 9 (.last 10 .done)) .nil) .nil) .nil) .nil) .nil)) [5] ?_;refine⟨rfl,?_⟩;refine useS u1 [(1,1)] ⟨dI s _,tv⟩ ⟨rfl,tv⟩ ?_;rintro O F0 Y n0 w ⟨rfl,rfl,c⟩;rcases c with⟨K,rfl,rfl⟩ | ⟨K,rfl,rfl⟩
    rotate_left
    ·refine⟨rfl,e7 2 3 10 (.inl rfl) rfl rfl dd ?_⟩;exact fail 10 G _ _ (by rw[f,if_neg K]) (.inl rfl) rfl hG
    have t1:=(I K).pos;rw[if_pos K]at f;clear u1 I K;refine⟨Fz.r _,rfl,?_⟩;refine useS (u2 t1) [(1,1)] ⟨dI s _,tv⟩ ⟨rfl,tv⟩ ?_;rintro O F0 Y n0 w ⟨rfl,rfl,c⟩;rcases c with⟨K,rfl,rfl⟩ | ⟨K,rfl,rfl⟩
    rotate_left
    ·refine⟨rfl,e7 2 3 10 (.inl rfl) rfl rfl dd ?_⟩;exact fail 10 G _ _ (by rw[f,if_neg K]) (.inl rfl) rfl hG
    have t2:=(J K).rng;rw[if_pos K]at f;clear u2 J K t1;refine⟨Fz.r _,rfl,Fz.r _,rfl,Fz.r _,rfl,nb rfl,[enc (a,b)],rfl,?_⟩;conv=>whnf
    first
    |(refine⟨rfl,rfl,?_⟩;(conv=>whnf);refine⟨a3,fun c' aa=>?_⟩)
    |refine⟨rfl,rfl,by simp,rfl,by show(Q.length+1+1)*16<=140737488355328;have h9:Q.length+1 < 64:=aq;omega,fun c' aa=>?_⟩
    refine⟨Fz.r _,rfl,?_⟩;exact⟨⟨(j+1,_++[(a,b)],c',y2),gj,by rw[qb,av];rfl,t2,f⟩,ah,leRd [(6,8)] ay az rfl ⟨tv,dI s _,li oo _ _ _,aF iY _ _ _ _ _,tv⟩ ⟨cnt an,tv⟩ ⟨Fz.r _,rfl,yG rfl rfl,aQ iY (aZ _ (by rw[qo];rfl)),tv⟩⟩
  ·have W:¬(j:Int) < n:=by omega
   rw[show m - j=0 by omega,dSt]at f;have ao:k+1<=8:=g;have aq:st.length<=64:=by omega
   have ad:o.length<=8:=by rw[Z.1];omega
   have af:1*32<=140737488355328:=by decide
   have ag:∀n,n<=8->(n+1)*32<=140737488355328:=fun n hn=>by omega
   have ae:short (acc++[((acc.length:Int)+1,st)]):=fun x hx=>by
    rcases yf.1 hx with hx | hx
    ·exact sh x hx
    ·obtain rfl:=qs.1 hx;show st.length < 1000000;omega
   have ap:(acc++[((acc.length:Int)+1,st)]).length=k+1:=by rw[qb,len];rfl
   have D:∀(G6:Fz) (z:ZC),Fz.le G G6->KpR G6 z.1 (IntKind.i64.wrap ((k:Int)+1),st)->CI F s A B N (k+1) (acc++[((acc.length:Int)+1,st)]) (o++[z]) q G6:=fun G6 z w hz=>by
    rw[a2]at hz;exact⟨ao,Fz.t hG w,(Z.mono w).snoc hz,ap,ae,aw,f⟩
   rcases st with _ | ⟨s0,Q⟩<;>rcases o with _ | ⟨o0,u⟩
   ·refine brj W ⟨nb rfl,[[.int .i64 (IntKind.i64.wrap ((k:Int)+1)),.nilsl]],rfl,rfl,rfl,af,fun c' aa=>?_⟩;refine lC 8 (kQ 52 ([]:List ZC) (IntKind.i64.wrap ((k:Int)+1)) c') rfl (fun ρ o h=>mg (l:=([]:List ZC)) ρ o h) (k8 (show 0 < 9 by decide)) ?_;exact dT ⟨⟨(k+1,acc++[((acc.length:Int)+1,[])],([]:List ZC)++[mkZ (IntKind.i64.wrap ((k:Int)+1)) (.slice true 0 0 0 2 0 0) rfl],c',q,G),D G _ (Fz.r G) ⟨_,rfl,Sl.nil⟩⟩,T,leRnd [_,_,_] [_,_] [(4,8)] hH hT rfl ⟨tv,dI s _,eY oo _ _ _ _ _,(by intro a S;simp at S;subst S;trivial),bP aD oo _ _ _ _,tv⟩ ⟨cnt U,tv⟩ ⟨Fz.r _,rfl,fV rfl rfl,rfl,cQ (μ:=sig [(4,8)]) aD (fun k=>rfl) (aZ _ (by rw[qo];rfl)),tv⟩⟩
   ·refine brj W ⟨nb rfl,[[.int .i64 (IntKind.i64.wrap ((k:Int)+1)),.nilsl]],rfl,rfl,rfl,by simp,rfl,ag _ ad,fun c' aa=>?_⟩;refine lC 8 (kQ 52 (o0::u) (IntKind.i64.wrap ((k:Int)+1)) c') rfl (fun ρ o h=>mg (l:=(o0::u)) ρ o h) (k8 (show 0 < 9 by decide)) ?_;exact dT ⟨⟨(k+1,acc++[((acc.length:Int)+1,[])],(o0::u)++[mkZ (IntKind.i64.wrap ((k:Int)+1)) (.slice true 0 0 0 2 0 0) rfl],c',q,G),D G _ (Fz.r G) ⟨_,rfl,Sl.nil⟩⟩,T,leRnd [_,_,_] [_,_] [(4,8)] hH hT rfl ⟨tv,dI s _,eY oo _ _ _ _ _,(by intro a S;simp at S;subst S;trivial),bP aD oo _ _ _ _,tv⟩ ⟨cnt U,tv⟩ ⟨Fz.r _,rfl,fV rfl rfl,rfl,cQ (μ:=sig [(4,8)]) aD (fun k=>rfl) (aZ _ (by rw[qo];rfl)),tv⟩⟩
   ·refine brj W ⟨nb rfl,[[.int .i64 (IntKind.i64.wrap ((k:Int)+1)),.slice false 6 0 0 2 (Q.length+1) cs]],rfl,rfl,rfl,af,fun c' aa=>?_⟩;refine eO 6 (fun _=>.arr 56 2 ((s0::Q).map enc) cs) rfl rfl rfl (fun _ _=>gM _ _ _) (fun _ _=>eP _ _) ?_;intro z6 G6 v6 ak;refine eJ 8 _ rfl (fh (fun _=>rfl) (i:=6) (z:=z6 0) rfl ([]:List ZC) (IntKind.i64.wrap ((k:Int)+1)) (Q.length+1) cs c') (eQ (show 0 < 9 by decide) ([]:List ZC) (mkZ (IntKind.i64.wrap ((k:Int)+1)) (.slice false 0 (z6 0) 0 2 _ cs) rfl) _) ?_;exact dT ⟨⟨(k+1,acc++[((acc.length:Int)+1,s0::Q)],([]:List ZC)++[mkZ (IntKind.i64.wrap ((k:Int)+1)) (.slice false 0 (z6 0) 0 2 (Q.length+1) cs) rfl],c',q,G6),D G6 _ v6 ⟨_,rfl,Sl.new (l:=s0::Q) (ak 0 ⟨rfl,rfl⟩)⟩⟩,T,leRnd [_,_,_] [_,_] [(4,8)] hH hT rfl ⟨tv,dI s _,eY oo _ _ _ _ _,(by intro a S;simp at S;subst S;trivial),bP aD oo _ _ _ _,tv⟩ ⟨cnt U,tv⟩ ⟨Fz.r _,rfl,fV rfl rfl,rfl,cQ (μ:=sig [(4,8)]) aD (fun k=>rfl) (aZ _ (by rw[qo];rfl)),tv⟩⟩
   ·refine brj W ⟨nb rfl,[[.int .i64 (IntKind.i64.wrap ((k:Int)+1)),.slice false 6 0 0 2 (Q.length+1) cs]],rfl,rfl,rfl,by simp,rfl,ag _ ad,fun c' aa=>?_⟩;refine eO 6 (fun _=>.arr 56 2 ((s0::Q).map enc) cs) rfl rfl rfl (fun _ _=>gM _ _ _) (fun _ _=>eP _ _) ?_;intro z6 G6 v6 ak;refine eJ 8 _ rfl (fh (fun _=>rfl) (i:=6) (z:=z6 0) rfl (o0::u) (IntKind.i64.wrap ((k:Int)+1)) (Q.length+1) cs c') (eQ (show 0 < 9 by decide) (o0::u) (mkZ (IntKind.i64.wrap ((k:Int)+1)) (.slice false 0 (z6 0) 0 2 _ cs) rfl) _) ?_;exact dT ⟨⟨(k+1,acc++[((acc.length:Int)+1,s0::Q)],(o0::u)++[mkZ (IntKind.i64.wrap ((k:Int)+1)) (.slice false 0 (z6 0) 0 2 (Q.length+1) cs) rfl],c',q,G6),D G6 _ v6 ⟨_,rfl,Sl.new (l:=s0::Q) (ak 0 ⟨rfl,rfl⟩)⟩⟩,T,leRnd [_,_,_] [_,_] [(4,8)] hH hT rfl ⟨tv,dI s _,eY oo _ _ _ _ _,(by intro a S;simp at S;subst S;trivial),bP aD oo _ _ _ _,tv⟩ ⟨cnt U,tv⟩ ⟨Fz.r _,rfl,fV rfl rfl,rfl,cQ (μ:=sig [(4,8)]) aD (fun k=>rfl) (aZ _ (by rw[qo];rfl)),tv⟩⟩
 ·have gi:¬(k:Int) < 8:=by omega
  obtain⟨hk,hG,Z,len,sh,pos,d⟩:=hI;have ao:k=8:=by omega
  rw[show 8 - k=0 by omega,dCl,dEnd]at d;have a1:acc.length < 1000000:=by omega
  rcases o with _ | ⟨o0,u⟩
  ·have Y:0=acc.length:=Z.1;omega
  have ad:u.length+1=acc.length:=Z.1;have am:=fun(F3:Fz) (l3:Fz.le G F3) (z:Nat) (hz:F3 z=some (.arr 52 2 ((o0::u).map encZ) co))=>RowG.sl (R:=KpR) (cap:=co) (RowG.mono (R:=KpR) (fun h l=>h.mono l) Z l3) hz
  rw[<-ad]at am;have ar:=fun(F3:Fz) sk (h:ClsAt F3 sk acc)=>gG F3 sk ⟨A,B,N,acc⟩ h sh a1
  have hok:crtOk ⟨A,B,N,acc⟩=true\/crtOk ⟨A,B,N,acc⟩=false:=by
   cases crtOk ⟨A,B,N,acc⟩
   ·exact .inr rfl
   ·exact .inl rfl
  refine brj gi ?_;refine dwS (lk [0,1,2,3,4,5,6,7,8,9] (.alt 10 (.alt 11 .done .nil) .nil)) [1] ?_;refine⟨rfl,rfl,Fz.r _,rfl,?_⟩;refine useFt (gN G _ _) ?_;rintro _ _ lm ⟨rfl,⟨L,rfl⟩ | ⟨L,rfl⟩⟩
  rotate_left
  ·refine⟨rfl,e7 2 3 10 (.inl rfl) rfl rfl dd ?_⟩;exact fail 10 G _ _ (by rw[d,if_neg (oe L)]) (.inl rfl) rfl hG
  rw[if_pos (od L)]at d;clear L lm;refine⟨Fz.r _,rfl,?_⟩;refine mB 4 (fun _=>.arr 52 2 ((o0::u).map encZ) co) rfl rfl rfl (fun _ _=>by exact dt (μ:=resP _) aD (fun k=>rfl) rfl _ _ _) (fun _ _=>dv aD oo _ _ _ _) ?_;intro bC F3 l3 a0;have al:=am F3 l3 _ (a0 0 ⟨rfl,rfl⟩);refine useFs (ar F3 _ al) ?_;rintro _ F4 l4 rfl;have au:=Fz.t hG (Fz.t l3 l4);rcases hok with hok | hok
  ·rw[if_pos hok]at d;refine useFt (gN F4 _ _) ?_;rintro _ _ lm ⟨rfl,⟨L,rfl⟩ | ⟨L,rfl⟩⟩
   rotate_left
   ·exact absurd (hok.symm.trans L) dd
   refine⟨rfl,AA 2 3 ?_⟩;refine endG (.ret (.tup [.agg (crtS ⟨A,B,N,acc⟩ (.slice false 0 (bC 0) 0 2 (u.length+1) co)),.va .nilif])) rfl au ?_ (aP _) rfl (Out.bB_ok rfl);exact⟨.slice false 0 (bC 0) 0 2 (u.length+1) co,.nilif,by rw[d],by rw[d];exact KpsAt.up al l4,.inl ⟨by rw[d],rfl⟩⟩
  ·rw[if_neg (by rw[hok];simp)]at d;refine useFt (gN F4 _ _) ?_;rintro _ _ lm ⟨rfl,⟨L,rfl⟩ | ⟨L,rfl⟩⟩
   ·exact absurd (hok.symm.trans L) dd
   refine⟨rfl,e7 2 3 100 (.inr rfl) rfl rfl dd ?_⟩;exact fail 100 F4 _ _ d (.inr rfl) rfl au
def DecK(d:Crt×Int)(o:Out)(a:Fz):Prop:=∃sk,o=.ret (.tup [.agg (crtS d.1 sk),.va (.int .i64 d.2)])/\ClsAt a sk d.1.cl
theorem oN(F:Fz)(s:List UInt8)(q:s.length<=1000000000000000000):Fo prog F 36 [.va (.str s)] (DecK (decC s)):=by
 have b:=AJ F s q;unfold CertK at b;obtain⟨⟨c,e⟩,j⟩:∃d,decC s=d:=⟨_,rfl⟩
 rw[j]at b ⊢;clear j;refine foS func36 ?_;refine useS b [(1,2)] ⟨dI s _,tv⟩ ⟨rfl,tv⟩ ?_;rintro l F1 B n0 A ⟨rfl,rfl,sk,h,rfl,k,a⟩;have i:=k;obtain⟨y,u,x,w,J,K,rfl,D,E,G,I⟩:=k
 have f:Fo prog F1 71 [.va h] (fun o m=>o=.ret (.va (.int .i64 e))/\m=F1):=by
  rcases a with⟨g,rfl⟩ | ⟨g,rfl⟩
  ·have g:e=0:=g;subst g;exact AQ F1
  ·have g:e=10\/e=100:=g;rcases g with rfl | rfl
   ·exact EU F1
   ·exact wj F1
 have p:h.z=true/\∀n,h.below n:=by
  rcases a with⟨-,rfl⟩ | ⟨-,rfl⟩<;>exact⟨rfl,fun _=>trivial⟩
 rcases a with⟨-,rfl⟩ | ⟨-,rfl⟩
 all_goals
  refine dwS (.look 0 (.look 1 (.alt 2 (.alt 3 (.look 4 .done) .nil) .nil))) [3] ?_;refine⟨rfl,?_⟩;refine usePs f ?_;refine⟨Fz.r F1,rfl,Fz.r F1,rfl,?_⟩;exact endFs (.ret (.tup [.agg (crtS c (.slice y 0 u x 2 c.cl.length w)),.va (.int .i64 e)])) A ⟨_,rfl,i⟩
