import Derived.Test.YtfnkamphhpldcaaGreatDoorK22
import Derived.Test.YtfnkamphhpldcaaGreatDoorK08
import Derived.Test.YtfnkamphhpldcaaGreatDoorK14
import Derived.Test.YtfnkamphhpldcaaGreatDoorK18
set_option maxHeartbeats 64000000
namespace Go.Proofs.YtfnkamphhpldcaaGreatDoor
open Go Sx Tryz
set_option maxRecDepth 100000
theorem qV{α:Type}{τ μ:Mu}{i j m:Nat}(h1:τ i 0=(m,0))(a:μ j 0=(m,0))(sz c:Nat)(l:List α):(gA sz i c l).ren τ=(gA sz j c l).ren μ:=by
 cases l with
 |nil=>rfl
 |cons x r=>simp only[gA,SA.ren,h1,a]
theorem pn{τ μ:Mu}{i j m:Nat}(h1:τ i 0=(m,0))(a:μ j 0=(m,0))(v:Val)(c:Nat):subE (some ((valE v i c).ren τ)) ((valE v j c).ren μ):=by
 show SB.ren τ _=SB.ren μ _;simp only[SB.ren,qw,yy,qV h1 a];rfl
theorem vY{μ:Mu}{j m:Nat}(a:μ j 0=(m,0))(v:Val)(c:Nat):subE (some (valE v m c)) ((valE v j c).ren μ):=by
 have:=pn (τ:=sig []) (μ:=μ) (i:=m) (j:=j) (m:=m) rfl a v c;rw[rn]at this;exact this
theorem Cg{τ μ:Mu}{i j m:Nat}(h1:τ i 0=(m,0))(a:μ j 0=(m,0))(v:Val)(c:Nat):
  [SA.lit v.lost,gA 2 i c v.lines,.int .i64 v.w,.int .i64 v.h,.str v.bits].map (SA.ren τ)=[SA.lit v.lost,gA 2 j c v.lines,.int .i64 v.w,.int .i64 v.h,.str v.bits].map (SA.ren μ):=by
 simp only[qw,yy,qV h1 a];rfl
theorem CQ(v:Val)(c:Nat)(p:Int):∀s∈[valV v 1 c,.va (.int .i64 p)],SV.below 3 s:=by
 intro s d;simp only[qh,qq,or_false]at d;rcases d with rfl | rfl
 ·intro a b;simp only[qh,qq,or_false]at b;rcases b with rfl | rfl | rfl | rfl | rfl
  ·trivial
  ·exact e9 oo _ _ _
  ·trivial
  ·trivial
  ·trivial
 ·trivial
theorem zQ{l:List Stp}{k:Nat}(v:Val)(a:k < l.length):runS (l.take (k+1)) v=if(runS (l.take k) v).lost=true then runS (l.take k) v else stepS l[k] (runS (l.take k) v):=by
 rw[qf a];unfold runS;rw[qbd];rfl
theorem Dz{p:Int}{s:List UInt8}{o:Out}{a:List (Nat×Ent)}{n0:Nat}(h:readS p s=none)(b:match readS p s with
 |some v=>∃c caps,n0=3/\o=.ret (valV v 1 c)/\a=[(1,bG 2 caps c v.lines),(2,famE caps v.lines)]
 |none=>n0=1/\o=.panic perr/\a=[]):n0=1/\o=.panic perr/\a=[]:=by rw[h]at b;exact b
theorem DA{p:Int}{s:List UInt8}{o:Out}{a:List (Nat×Ent)}{n0:Nat}{v:Val}(h:readS p s=some v)(b:match readS p s with
 |some v=>∃c caps,n0=3/\o=.ret (valV v 1 c)/\a=[(1,bG 2 caps c v.lines),(2,famE caps v.lines)]
 |none=>n0=1/\o=.panic perr/\a=[]):∃c caps,n0=3/\o=.ret (valV v 1 c)/\a=[(1,bG 2 caps c v.lines),(2,famE caps v.lines)]:=by rw[h]at b;exact b
theorem n7{p:Int}{l:List Stp}(h:aN p l=true):(1<=p/\p<=8)/\l.length<=64/\∀s∈l,bA p s=true:=by
 unfold aN at h;simp only[qd,decide_eq_true_eq,qp]at h;exact⟨h.1,h.2.1,h.2.2⟩
theorem wq(F:Fz)(hM:MLF F)(sa:SA)(l:List Stp)(p:Int)(s:List UInt8)(ha:aW F sa l)(hl:l.length < 1000000)(R:s.length<=1000000000000000000):
  Fo prog F 59 [.va (.int .i64 p),.va sa,.va (.str s)] (fun o _=>o=.ret (.tup [.va (.str (dp p l s).1),.va (.int .i64 (dp p l s).2)])):=by
 have A:=lT F sa l p ha hl;have ai:=ha
 have fin:∀(x:List UInt8) (e:Int) (F1:Fz) (h:Hp) (nx:Nat),dp p l s=(x,e)->lget h 0=some (.frz F1)->Fz.le F F1->
   Cln 1 (FoK F fun o F'=>o=.ret (.tup [.va (.str (dp p l s).1),.va (.int .i64 (dp p l s).2)])) (.ret (.tup [.va (.str x),.va (.int .i64 e)])) h nx:=by
  intro x e F1 h nx hx I n;exact endFo (.ret (.tup [.va (.str x),.va (.int .i64 e)])) F1 I n (Fz.r F1) (by rw[hx]) (aP _) rfl
 have Q:readS p s=none\/∃v,readS p s=some v:=by
  cases readS p s with
  |none=>exact .inl rfl
  |some v=>exact .inr ⟨v,rfl⟩
 obtain⟨am,ak,ad,al,ac,an,rfl,q,M,aj,ab⟩:=ha;unfold Fo;refine Ax hΘ func59 rfl dd 41 _ rfl rfl rfl (ec hΘ _ _ _ ?_);refine Am rfl rfl rfl rfl ?_;refine usePs (A) ?_;refine useFt (dF F (aN p l)) ?_;rintro _ _ l1 ⟨rfl,⟨S,rfl⟩ | ⟨S,rfl⟩⟩
 ·have b:=n7 S;refine useS (ybq cfun tfun F s p R) [] trivial trivial ?_;rintro D Z I n0 n ⟨rfl,a⟩;rcases Q with f | ⟨v,f⟩
  ·replace a:=Dz f a;obtain⟨rfl,rfl,rfl⟩:=a;refine⟨rfl,tj 1 2 [] 0 rfl rfl dd ?_⟩;exact fin [] 70 F _ _ (by rw[dp,if_pos S,f]) rfl (Fz.r F)
  ·replace a:=DA f a;obtain⟨c,caps,rfl,rfl,rfl⟩:=a;refine useFs (wy F) ?_;rintro _ F1 Y ⟨bk,rfl,hK⟩;conv=>whnf
   refine aH hΘ (X:={ x:Nat×Val×Nat×(Nat->Nat) // x.1<=l.length/\x.2.1=runS (l.take x.1) v }) (fun x=>[(22,.va (.int .i64 x.1.1))]) (11::jr 23 15 [])
    (fun x=>[(0,.frz F1),(3,bG 4 x.1.2.2.2 x.1.2.2.1 x.1.2.1.lines),(4,famE x.1.2.2.2 x.1.2.1.lines),(5,valE x.1.2.1 3 x.1.2.2.1)]) 7 (fun x=>l.length - x.1.1) ⟨(0,v,c,caps),by simp,rfl⟩
    (fun V W=>leId [] V W rfl ⟨tv,c8 oo _ _ _,c9 _ _ _,gF oo _,tv⟩ ⟨rfl,tv⟩ ⟨Fz.r F1,nQ (fun k=>rfl) (fun k=>rfl) rfl,oP rfl,pn (τ:=tau [] 1 3) (μ:=sig []) (i:=1) (j:=3) (m:=3) rfl rfl v c,tv⟩) ?_
   rintro⟨⟨k,u,U,E⟩,hk,J⟩ V W;replace hk:k<=l.length:=hk;replace J:u=runS (l.take k) v:=J;refine br (fun K=>?_) (fun K=>?_)
   ·have g:k < l.length:=by
     have I:(k:Int) < (l.length:Int):=od K;omega
    clear K;have d:=zQ v g;rw[<-J]at d;have ag:∃κ ν,l[k]=(κ,ν):=⟨_,_,rfl⟩
    obtain⟨κ,ν,y⟩:=ag;have O:ac[ad+(k:Int).toNat]? =some (enc (κ,ν)):=by rw[<-y];exact Sl.at ab g
    have G:bA p (κ,ν)=true:=by rw[<-y];exact b.2.2 _ (qx g)
    have B:VOK p u:=by
     rw[J];exact mo b.1 _ _ (fun s R=>b.2.2 s (yh R)) (xD f).2
    rw[y]at d;obtain⟨T,L,w,h,bits⟩:=u;rcases T with _ | _
    ·replace d:runS (l.take (k+1)) v=stepS (κ,ν) ⟨false,L,w,h,bits⟩:=d;have af:=fun c caps=>Cu (do_fn F1 bk hK (hM.mono Y) p κ ν ⟨false,L,w,h,bits⟩ b.1 G B rfl c caps)
     have hκ:κ=1\/κ=2\/κ=3\/κ=4\/κ=5\/κ=6:=by
      have:=fH b.1 G;omega
     clear G y B;rcases hκ with rfl | rfl | rfl | rfl | rfl | rfl
     all_goals
      refine⟨Sl.lt q g,⟨by simp,by simpa using g⟩,_,Y _ _ (M (Sl.lt q g)),_,O,?_⟩;refine dwS (lk [0,1,2,3,4,5,6] (.alt 7 .done .nil)) [6,7] ?_;conv=>whnf
      repeat' ((conv=>whnf);first
       |refine⟨rfl,?_⟩
       |refine⟨Fz.r _,rfl,?_⟩
       |refine⟨Fz.r _,rfl,rfl,?_⟩
       |refine⟨⟨by simp,by simp⟩,?_⟩
       |fail)
      refine use (af U E) [(1,5),(2,3),(3,4)] rfl (by first | exact⟨rfl,rfl,rfl,tv⟩ | exact⟨rfl,rfl,tv⟩) rfl (rL _ _ _) (by simp[SV.below,SA.below,fp,doC]) ⟨vY (μ:=sig [(1,5),(2,3),(3,4)]) (j:=2) (m:=3) rfl _ _,ee (fun k=>rfl),dW,tv⟩ ?_;rintro D Z I n1 n ⟨rfl,rfl,rfl,c2,aa,rfl⟩;refine⟨Fz.r _,rfl,rfl,?_⟩
      exact⟨⟨(k+1,stepS (_,ν) ⟨false,L,w,h,bits⟩,c2,aa),by show k+1<=l.length;omega,d.symm⟩,by show l.length - (k+1) < l.length - k;omega,
       leRd [] V W rfl ⟨tv,c8 oo _ _ _,c9 _ _ _,gF oo _,tv⟩ ⟨cnt oo,tv⟩
       ⟨Fz.r _,nQ (fun k=>rfl) (fun k=>rfl) rfl,(by first | exact oP rfl | exact trivial),pn (τ:=tau [(1,5),(2,3),(3,4)] 4 8) (μ:=sig []) (i:=2) (j:=3) (m:=3) rfl rfl _ _,tv⟩⟩
    ·replace d:runS (l.take (k+1)) v=⟨true,L,w,h,bits⟩:=d;refine⟨Sl.lt q g,⟨by simp,by simpa using g⟩,_,Y _ _ (M (Sl.lt q g)),_,O,?_⟩
     exact⟨⟨(k+1,⟨true,L,w,h,bits⟩,U,E),by show k+1<=l.length;omega,d.symm⟩,by show l.length - (k+1) < l.length - k;omega,
      leRd [] V W rfl ⟨tv,c8 oo _ _ _,c9 _ _ _,gF oo _,tv⟩ ⟨cnt oo,tv⟩
      ⟨Fz.r _,ee (fun k=>rfl),dW,vY (μ:=sig []) (j:=3) (m:=3) rfl _ _,tv⟩⟩
   ·have g:k=l.length:=by
     have I:¬(k:Int) < (l.length:Int):=oe K;omega
    clear K
    have B:VOK p u:=by
     rw[J];exact mo b.1 _ _ (fun s R=>b.2.2 s (yh R)) (xD f).2
    have ae:dp p l s=(bI p u,0):=by
     rw[dp,if_pos S,f,J,g,yp]
    have ah:=Ck pfun F1 u U E p (yC b.1 B) b.1.2;refine use ah [(1,3),(2,4)] rfl ⟨congrArg SV.agg (Cg (i:=1) (j:=3) (m:=3) ?_ ?_ u U),rfl,tv⟩ rfl (rK _ _ _) (CQ _ _ _) ⟨ee (fun k=>rfl),dW,tv⟩ ?_
    ·rfl
    ·rfl
    rintro D Z I n1 n ⟨rfl,rfl,rfl⟩;refine⟨rfl,C8 1 2 ?_⟩;exact fin _ 0 Z _ _ ae rfl (Fz.t Y n)
 ·refine⟨rfl,tj 1 2 [] 0 rfl rfl dd ?_⟩;exact fin [] 70 F _ _ (by rw[dp,if_neg (by rw[S];simp)]) rfl (Fz.r F)
end Go.Proofs.YtfnkamphhpldcaaGreatDoor
namespace Sx
open Go Go.RowKit
section
variable {P:Program} {Θ:Tys} {st:St} {Q:SE->St->Prop} {body:Code}
@[irreducible] def SR (P:Program) (body:Code) (Q:SE->St->Prop) (n:Nat) (st:St):Prop:=
 ∀(C:Ctx) (ρ:Rho) (a:Act) (w:World),Den C ρ st a w->Code.rounds P body (Up C Q) n a w
theorem sr_go(hΘ:Θ.Ok P){n:Nat}(h:sx P Θ body st fun e b=>(match e with
  |.normal=>SR P body Q n b
  |.ret=>Q .ret b
  |.exit id=>Q (.exit id) b
  |.panic v=>Q (.panic v) b)):SR P body Q (n+1) st:=by
 unfold SR;intro C ρ a w D;have h1:=ec hΘ body st _ h;unfold WP at h1;refine wp_mono (h1 C ρ a w D) ?_;rintro e g j ⟨i,b,f,c,rfl,d⟩;cases i with
 |normal=>
  dsimp only at c;unfold SR at c;exact c C f g j d
 |ret=>exact⟨.ret,b,f,c,rfl,d⟩
 |exit id=>exact⟨.exit id,b,f,c,rfl,d⟩
 |panic v=>exact⟨.panic v,b,f,c,rfl,d⟩
theorem rr(hΘ:Θ.Ok P)(n:Nat)(h:sx P Θ body st fun e b=>(match e with
  |.normal=>SR P body Q n b
  |.ret=>Q .ret b
  |.exit id=>Q (.exit id) b
  |.panic v=>Q (.panic v) b)):WP P (.loop body) st Q:=by
 have c:=sr_go hΘ h;unfold SR at c;unfold WP;intro C ρ a w D;exact wp_loop_rounds (n+1) (c C ρ a w D)
end
end Sx
namespace Sx
open Go
theorem Sat.reshape{C:Ctx}{ρ:Rho}{h:Hp}{nx:Nat}{w:World}(s:Sat C ρ h nx w){i:Nat}{b a:SB}(d:lget h i=some (.one b))(f:∀ρ o,b.ok ρ o->a.ok ρ o)(c:b.below nx->a.below nx):Sat C ρ (lput h i (.one a)) nx w:=by
 obtain⟨o,j,g⟩:=s.blk i _ d 0 rfl;exact s.upd 0 d rfl rfl rfl (fun k=>Iff.rfl) o (fun k e h=>absurd h e) (f _ _ g) (c (s.wf i _ d 0 rfl)) rfl rfl rfl rfl j (fun _ _=>rfl)
section
variable {P:Program} {h:Hp} {nx:Nat}
theorem nD{c:Code}{d:St}{Q:SE->St->Prop}(i:Nat)(e:SB){b:SB}(j:lget d.h i=some (.one b))(g:∀ρ o,b.ok ρ o->e.ok ρ o)(f:∀n,b.below n->e.below n)
  (k:WP P c { d with h:=lput d.h i (.one e) } Q):WP P c d Q:=by
 unfold WP at*;intro C ρ a w D;exact k C ρ a w { sat:=D.sat.reshape j g (f d.nx),nt:=D.nt,tm:=D.tm,tw:=D.tw,n0:=D.n0,df:=D.df,dw:=D.dw }
end
abbrev sing(l:List SA):List (List SA):=l.map fun a=>[a]
theorem zZ(l:List SA):(sing l).flatten=l:=by
 induction l with
 |nil=>rfl
 |cons a r ih=>simpa[sing]using ih
theorem pm{t:TypeId}{l:List SA}{L:List (List SA)}{n:Nat}(b:L=sing l)(c:n=l.length):∀ρ o,(SB.cells t l).ok ρ o->(SB.arr t 1 L n).ok ρ o:=by
 subst b c;intro ρ o h;refine⟨fun x d=>?_,by simp,[],by simp,?_⟩
 ·obtain⟨a,_,rfl⟩:=qz.1 d;rfl
 ·rw[zZ,qy];exact h
theorem nY{t:TypeId}{l:List SA}{L:List (List SA)}{m:Nat}(b:L=sing l):∀n,(SB.cells t l).below n->(SB.arr t 1 L m).below n:=by
 subst b;intro n h x d a c;obtain⟨y,e,rfl⟩:=qz.1 d;rcases qs.1 c with rfl;exact h _ e
end Sx
namespace Go.Proofs.YtfnkamphhpldcaaGreatDoor
open Go Sx Tryz
set_option maxRecDepth 100000
def rot(x n:Nat):Nat:=x*2^(32 - n) % 4294967296|||x / 2^n
def mix(x:Nat):List Nat->Nat->Nat
 |[],o=>o
 |n::r,o=>mix x r (o^^^rot x n)
def konst:List Nat:=[
 0x428a2f98,0x71374491,0xb5c0fbcf,0xe9b5dba5,0x3956c25b,0x59f111f1,0x923f82a4,0xab1c5ed5,
 0xd807aa98,0x12835b01,0x243185be,0x550c7dc3,0x72be5d74,0x80deb1fe,0x9bdc06a7,0xc19bf174,
 0xe49b69c1,0xefbe4786,0x0fc19dc6,0x240ca1cc,0x2de92c6f,0x4a7484aa,0x5cb0a9dc,0x76f988da,
 0x983e5152,0xa831c66d,0xb00327c8,0xbf597fc7,0xc6e00bf3,0xd5a79147,0x06ca6351,0x14292967,
 0x27b70a85,0x2e1b2138,0x4d2c6dfc,0x53380d13,0x650a7354,0x766a0abb,0x81c2c92e,0x92722c85,
 0xa2bfe8a1,0xa81a664b,0xc24b8b70,0xc76c51a3,0xd192e819,0xd6990624,0xf40e3585,0x106aa070,
 0x19a4c116,0x1e376c08,0x2748774c,0x34b0bcb5,0x391c0cb3,0x4ed8aa4a,0x5b9cca4f,0x682e6ff3,
 0x748f82ee,0x78a5636f,0x84c87814,0x8cc70208,0x90befffa,0xa4506ceb,0xbef9a3f7,0xc67178f2]
def at0(w:List Nat)(i:Nat):Nat:=w[i]?.getD 0
def nxt(w:List Nat):Nat:=
 (at0 w (w.length - 16)+(mix (at0 w (w.length - 15)) [7,18] 0^^^at0 w (w.length - 15) / 8)+at0 w (w.length - 7)+(mix (at0 w (w.length - 2)) [17,19] 0^^^at0 w (w.length - 2) / 1024)) % 4294967296
def grow:Nat->List Nat->List Nat
 |0,w=>w
 |n+1,w=>grow n (w++[nxt w])
def word(b:List UInt8)(i:Nat):Nat:=(b[4*i]?.getD 0).toNat*16777216+(b[4*i+1]?.getD 0).toNat*65536+(b[4*i+2]?.getD 0).toNat*256+(b[4*i+3]?.getD 0).toNat
def sched(b:List UInt8):List Nat:=grow 48 ((List.range 16).map (word b))
structure W8 where
 a:Nat
 b:Nat
 c:Nat
 d:Nat
 e:Nat
 f:Nat
 g:Nat
 h:Nat
def step8(k w:Nat)(v:W8):W8:=
 let t:=(v.h+mix v.e [6,11,25] 0+((v.e&&&v.f)^^^((4294967295 - v.e)&&&v.g))+k+w) % 4294967296
 let u:=(mix v.a [2,13,22] 0+((v.a&&&v.b)^^^(v.a&&&v.c)^^^(v.b&&&v.c))) % 4294967296
 ⟨(t+u) % 4294967296,v.a,v.b,v.c,(v.d+t) % 4294967296,v.e,v.f,v.g⟩
def eX(l:List (Nat×Nat))(v:W8):W8:=l.foldl (fun v x=>step8 x.1 x.2 v) v
def add8(v u:W8):W8:=⟨(v.a+u.a) % 4294967296,(v.b+u.b) % 4294967296,(v.c+u.c) % 4294967296,(v.d+u.d) % 4294967296,(v.e+u.e) % 4294967296,(v.f+u.f) % 4294967296,(v.g+u.g) % 4294967296,(v.h+u.h) % 4294967296⟩
def fC(b:List UInt8)(v:W8):W8:=add8 v (eX (konst.zip (sched b)) v)
def init8:W8:=⟨0x6a09e667,0xbb67ae85,0x3c6ef372,0xa54ff53a,0x510e527f,0x9b05688c,0x1f83d9ab,0x5be0cd19⟩
def be4(n:Nat):List UInt8:=[UInt8.ofNat (n / 16777216),UInt8.ofNat (n / 65536),UInt8.ofNat (n / 256),UInt8.ofNat n]
def eW(v:W8):List UInt8:=be4 v.a++be4 v.b++be4 v.c++be4 v.d++be4 v.e++be4 v.f++be4 v.g++be4 v.h
def padZ(n:Nat):Nat:=(119 - n % 64) % 64
def len8(n:Nat):List UInt8:=[UInt8.ofNat (8*n / 72057594037927936),UInt8.ofNat (8*n / 281474976710656),UInt8.ofNat (8*n / 1099511627776),UInt8.ofNat (8*n / 4294967296),UInt8.ofNat (8*n / 16777216),UInt8.ofNat (8*n / 65536),UInt8.ofNat (8*n / 256),UInt8.ofNat (8*n)]
def padded(s:List UInt8):List UInt8:=s++[128]++List.replicate (padZ s.length) 0++len8 s.length
def cC(n:Nat)(b:List UInt8)(v:W8):W8:=(List.range n).foldl (fun v k=>fC ((b.drop (64*k)).take 64) v) v
def sumS(s:List UInt8):List UInt8:=eW (cC ((padded s).length / 64) (padded s) init8)
def leafS(s:List UInt8):List UInt8:=sumS (0::s)
def nodeS(a b:List UInt8):List UInt8:=sumS (1::(a++b))
theorem DT(v:W8):(eW v).length=32:=rfl
def root8(l:List (List UInt8)):List UInt8:=
 let x (i:Nat):=leafS (l[i]?.getD [])
 nodeS (nodeS (nodeS (x 0) (x 1)) (nodeS (x 2) (x 3))) (nodeS (nodeS (x 4) (x 5)) (nodeS (x 6) (x 7)))
theorem lw(l:List (List UInt8)):(root8 l).length=32:=rfl
theorem w32(n:Int):IntKind.u32.wrap n=n % 4294967296:=by simp[IntKind.wrap,IntKind.bits,IntKind.signed]
theorem w32n(n:Nat):IntKind.u32.wrap (n:Int)=((n % 4294967296:Nat):Int):=by rw[w32];omega
variable {a:Nat}
theorem ofI32(h:a < 4294967296):(BitVec.ofInt 32 (a:Int)).toNat=a:=by
 rw[BitVec.ofInt_natCast,BitVec.toNat_ofNat];omega
variable {b:Nat}
theorem xor32(c:a < 4294967296)(d:b < 4294967296):bXor .u32 (a:Int) (b:Int)=((a^^^b:Nat):Int):=by
 have h:a^^^b < 2^32:=qc3 c d;show IntKind.u32.wrap (((BitVec.ofInt 32 (a:Int)^^^BitVec.ofInt 32 (b:Int)).toNat:Nat):Int)=_;rw[BitVec.toNat_xor,ofI32 c,ofI32 d,w32n,ju h]
theorem and32(d:a < 4294967296)(c:b < 4294967296):bAnd .u32 (a:Int) (b:Int)=((a&&&b:Nat):Int):=by
 have h:a&&&b < 2^32:=Nat.and_lt_two_pow _ c;show IntKind.u32.wrap (((BitVec.ofInt 32 (a:Int)&&&BitVec.ofInt 32 (b:Int)).toNat:Nat):Int)=_;rw[BitVec.toNat_and,ofI32 d,ofI32 c,w32n,ju h]
theorem or32(c:a < 4294967296)(d:b < 4294967296):bOr .u32 (a:Int) (b:Int)=((a|||b:Nat):Int):=by
 have h:a|||b < 2^32:=Nat.or_lt_two_pow c d
 show IntKind.u32.wrap (((BitVec.ofInt 32 (a:Int)|||BitVec.ofInt 32 (b:Int)).toNat:Nat):Int)=_;rw[BitVec.toNat_or,ofI32 c,ofI32 d,w32n,ju h]
theorem not32(b:a < 4294967296):bXor .u32 4294967295 (a:Int)=((4294967295 - a:Nat):Int):=by
 rw[show(4294967295:Int)=((4294967295:Nat):Int)from rfl,xor32 oo b]
 congr 1
 have h:=BitVec.toNat_not (x:=BitVec.ofNat 32 a);rw[BitVec.not_def,BitVec.toNat_xor,BitVec.toNat_allOnes,BitVec.toNat_ofNat,ju b]at h;exact h
theorem shl32(a n:Nat)(h:n<=32):shlI .u32 (a:Int) (n:Int)=((a*2^n % 4294967296:Nat):Int):=by
 unfold shlI;rw[qn,show IntKind.u32.bits=32 from rfl,qaq h,<-w32n]
 congr 1
theorem shr32(a n:Nat)(h:n<=32):shrI .u32 (a:Int) (n:Int)=((a / 2^n:Nat):Int):=by
 unfold shrI;rw[qn,show IntKind.u32.bits=32 from rfl,qaq h,qa9 _ (by have:=qd3 (n:=2) (m:=n) oo;omega)]
 push_cast;rfl
theorem sw(x n:Nat)(h:x < 4294967296):rot x n < 4294967296:=Nat.or_lt_two_pow (n:=32) (qba _ oo) (yt (qb7 _ _) h)
theorem nd(x:Nat)(h:x < 4294967296):∀(l:List Nat) (o:Nat),o < 4294967296->mix x l o < 4294967296
 |[],_,ho=>ho
 |n::r,_,ho=>nd x h r _ (qc3 (n:=32) ho (sw x n h))
theorem sAmt:∀n:Fin 32,n.val=0\/(bAnd .u64 (IntKind.u64.wrap (IntKind.i64.wrap (0 - (n.val:Int)))) 31=((32 - n.val:Nat):Int)/\IntKind.u64.wrap (32 - ((32 - n.val:Nat):Int))=(n.val:Int)):=by decide+kernel
theorem rotI{x n:Nat}(c:x < 4294967296)(d:1<=n)(h1:n < 32):bOr .u32 (shlI .u32 (x:Int) (bAnd .u64 (IntKind.u64.wrap (IntKind.i64.wrap (0 - (n:Int)))) 31)) (shrI .u32 (x:Int) (IntKind.u64.wrap (32 - bAnd .u64 (IntKind.u64.wrap (IntKind.i64.wrap (0 - (n:Int)))) 31)))=((rot x n:Nat):Int):=by
 obtain⟨a,b⟩:=(sAmt ⟨n,h1⟩).resolve_left (by simp;omega);simp only at a b;rw[a,b,shl32 x _ oo,shr32 x n oo,or32 (qba _ oo) (yt (qb7 _ _) c)];rfl
def mixH(l:List Nat):List (Nat×Ent):=[(1,.one (.arr 3 1 ((l.map fun n:Nat=>(n:Int)).map encI) l.length))]
abbrev wd(n:Nat):SA:=.int .u32 (n:Int)
theorem xq(x:Nat):∀(l:List Nat) (n o:Nat),mix x (l++[n]) o=mix x l o^^^rot x n
 |[],_,_=>rfl
 |_::r,n,_=>xq x r n _
theorem rotS{n:Nat}(c:1<=n)(h1:n < 32):0<=bAnd .u64 (IntKind.u64.wrap (IntKind.i64.wrap (0 - (n:Int)))) 31/\0<=IntKind.u64.wrap (32 - bAnd .u64 (IntKind.u64.wrap (IntKind.i64.wrap (0 - (n:Int)))) 31):=by
 obtain⟨a,b⟩:=(sAmt ⟨n,h1⟩).resolve_left (by simp;omega);simp only at a b;rw[a,b];omega
theorem eu{k:IntKind}{a b:Int}(h:a=b):SA.int k a=SA.int k b:=by rw[h]
theorem ybt(F:Fz)(x n:Nat)(c:x < 4294967296)(a:1<=n)(h1:n < 32):Fo prog F 258 [.va (wd x),.va (.int .i64 (IntKind.i64.wrap (0 - (n:Int))))] (fun o b=>o=.ret (.va (wd (rot x n)))/\b=F):=by
 have e:=rotI c a h1;have s:=rotS a h1;refine foS func258 ?_;refine⟨s.1,s.2,?_⟩;exact endPu rfl (Fz.r F) (eu e.symm) rfl
theorem Bw(F:Fz)(x:Nat)(l:List Nat)(e:x < 4294967296)(m:∀n∈l,1<=n/\n < 32)(q:l.length < 1000):
  Ct prog 231 [.va (wd x),.va (.slice false 1 0 0 1 l.length l.length)] F (mixH l) 2 (fun o i h n=>o=.ret (.va (wd (mix x l 0)))/\i=F/\h=[(1,.gone)]/\n=2):=by
 refine ctS func231 ?_;conv=>whnf
 refine aH hΘ (X:={ k:Nat // k<=l.length }) (fun k=>[(5,.va (wd (mix x (l.take k.1) 0))),(10,.va (.int .i64 k.1))]) (7::jr 11 10 []) (fun _=>[(0,.frz F),(1,.one (.arr 3 1 ((l.map fun n:Nat=>(n:Int)).map encI) l.length))]) 2 (fun k=>l.length - k.1) ⟨0,by simp⟩
  (fun c d=>leI [] c d rfl ⟨tv,ef 2 (l.map fun n:Nat=>(n:Int)) l.length,tv⟩ ⟨rfl,rfl,tv⟩ ⟨Fz.r F,(ej _ _ _).symm,tv⟩) ?_
 rintro⟨k,p⟩ c d;by_cases g:k < l.length
 ·have a:=m l[k] (qx g);have f:=nd x e (l.take k) 0 dd
  have b:bXor .u32 (mix x (l.take k) 0:Nat) (rot x l[k]:Nat)=((mix x (l.take (k+1)) 0:Nat):Int):=by
   rw[xor32 f (sw x _ e),qf g,xq]
  refine br (fun _=>?_) (fun h=>absurd h (by simp;omega));refine⟨rfl,⟨by simp,by simpa using g⟩,[.int .i64 ((l[k]:Nat):Int)],by simp[encI,qc g],?_⟩;refine usePs (ybt F x l[k] e a.1 a.2) ?_;conv=>whnf
  exact⟨⟨k+1,by omega⟩,by show l.length - (k+1) < l.length - k;omega,leR [] c d rfl ⟨tv,ef 2 (l.map fun n:Nat=>(n:Int)) l.length,tv⟩ ⟨eu b.symm,cnt oo,tv⟩ ⟨Fz.r F,(ej _ _ _).symm,tv⟩⟩
 ·have j:mix x l 0=mix x (l.take k) 0:=by rw[ql oo]
  refine br (fun h=>absurd h (by simp;omega)) (fun _=>?_);refine clean [] (.ret (.va (wd (mix x l 0)))) F [(1,.gone)] 2 ⟨Fz.r F,rfl,rfl,rfl,rfl⟩ (eu (by rw[j])) rfl rfl trivial ⟨tv,tv⟩ ⟨Fz.r F,tv⟩
theorem mixU{F:Fz}{x:Nat}(l:List Nat)(h:x < 4294967296)(f:∀n∈l,1<=n/\n < 32)(g:l.length < 1000){H:Hp}{K:Out->Hp->Nat->Prop}(i:Nat)(d:lget H 0=some (.frz F))
  (c:lget H i=some (.one (.arr 3 1 ((l.map fun n:Nat=>(n:Int)).map encI) l.length)))(a:chkU [(1,.to i)] (mixH l) 2 b=true)
  (e:K (.ret (.va (wd (mix x l 0)))) (lput (lput H i .gone) 0 (.frz F)) b):za6 prog 231 [.va (wd x),.va (.slice false i 0 0 1 l.length l.length)] H b K:=by
 refine use (Bw F x l h f g) [(1,.to i)] d ⟨rfl,⟨rfl,rfl,rfl,.inr ⟨?_,?_,rfl,rfl⟩⟩,tv⟩ a ⟨ef 2 (l.map fun n:Nat=>(n:Int)) l.length,tv⟩ (by simp[SV.below,SA.below]) ⟨?_,tv⟩ ?_
 ·show i=(resP H i 0).1;simp[resP,c]
 ·show 0=(resP H i 0).2;simp[resP,c]
 ·show subE (lget H i) (.one ((SB.arr 3 1 ((l.map fun n:Nat=>(n:Int)).map encI) l.length).ren _));rw[c];exact(ej _ _ _).symm
 ·rintro _ _ _ _ _ ⟨rfl,rfl,rfl,rfl⟩;exact e
def encW(n:Nat):List SA:=[wd n]
def full(A:List Nat):List Nat:=A++List.replicate (64 - A.length) 0
variable {A:List Nat}
theorem Ba(h:A.length<=64):(full A).length=64:=by simp[full];omega
theorem Bb(x:Nat)(h:A.length < 64):(full A).set A.length x=full (A++[x]):=by
 unfold full;rw[qbo _ _ (qi _),qdj,qj,qb];obtain⟨m,a⟩:∃m,64 - A.length=m+1:=⟨63 - A.length,by omega⟩
 rw[a,qb2,qax,yi,show 64 - (A.length+1)=m by omega];rfl
theorem A9{i:Nat}(h:i < A.length):(full A)[i]? =some (at0 A i):=by
 unfold full at0;rw[jo h,qc h];rfl
theorem A8(h:A.length=64):full A=A:=by simp[full,h]
theorem pL{i:Nat}(h:i < A.length):at0 A i∈A:=by
 unfold at0;rw[qc h];exact qx h
abbrev rowW(A:List Nat):Ent:=.one (.arr 287 1 ((full A).map encW) 64)
theorem fP(μ:Mu)(L:List Nat)(c:Nat):(SB.arr 287 1 (L.map encW) c).ren μ=SB.arr 287 1 (L.map encW) c:=by
 show SB.arr 287 1 ((L.map encW).map (List.map (SA.ren μ))) c=_;rw[jq];congr 1
theorem fM(n:Nat)(L:List Nat)(c:Nat):(SB.arr 287 1 (L.map encW) c).below n:=by
 intro x d a b;obtain⟨s,_,rfl⟩:=qz.1 d;rcases qs.1 b with rfl;trivial
theorem word_lt(b:List UInt8)(i:Nat):word b i < 4294967296:=by
 unfold word;have h:=fun j:Nat=>(b[j]?.getD 0).toNat_lt
 have a:=h (4*i);have h1:=h (4*i+1);have c:=h (4*i+2);have d:=h (4*i+3);omega
variable {k:Nat}
theorem qE(h:b < 2^k):(a*2^k)|||b=a*2^k+b:=by
 rw[qar,<-qbq h]
theorem wordI(_:List UInt8)(_:Nat)(a x1 x2 c:Nat)(j:a < 256)(h1:x1 < 256)(k:x2 < 256)(l:c < 256):
  bOr .u32 (bOr .u32 (bOr .u32 (shlI .u32 (IntKind.u32.wrap (a:Int)) 24) (shlI .u32 (IntKind.u32.wrap (x1:Int)) 16)) (shlI .u32 (IntKind.u32.wrap (x2:Int)) 8)) (IntKind.u32.wrap (c:Int))=((a*16777216+x1*65536+x2*256+c:Nat):Int):=by
 have s0:=shl32 a 24 oo;have d:=shl32 x1 16 oo;have f:=shl32 x2 8 oo;have e:∀x:Nat,x < 256->IntKind.u32.wrap (x:Int)=(x:Int):=fun x m=>by rw[w32n,ju oo]
 rw[e _ j,e _ h1,e _ k,e _ l];simp only[show((24:Nat):Int)=24 from rfl,show((16:Nat):Int)=16 from rfl,show((8:Nat):Int)=8 from rfl]at s0 d f;rw[s0,d,f,ju oo,ju oo,ju oo,or32 oo oo];have g:a*2^24|||x1*2^16=(a*256+x1)*2^16:=by rw[qE oo];omega
 rw[g,or32 oo oo];have h:(a*256+x1)*2^16|||x2*2^8=((a*256+x1)*256+x2)*2^8:=by rw[qE oo];omega
 rw[h,or32 oo oo,qE oo]
 congr 1;omega
theorem sA(x:Nat)(h:A.length < 64):(∃a,((full A).map encW)[((A.length:Nat):Int).toNat]? =some (encW a))/\
  ∀z:Int,z=((x:Nat):Int)->SB.arr 287 1 (((full A).map encW).set ((A.length:Nat):Int).toNat [SA.int .u32 z]) 64=SB.arr 287 1 ((full (A++[x])).map encW) 64:=by
 have b:=Ba (A:=A) oo;refine⟨⟨(full A)[A.length],?_⟩,?_⟩
 ·rw[qn,qt,qc oo];rfl
 ·rintro z rfl;rw[qn,show[SA.int .u32 ((x:Nat):Int)]=encW x from rfl,<-qbw,Bb x h]
abbrev bQ(b:List UInt8)(k:Nat):List Nat:=(List.range k).map (word b)
theorem pk:∀(n:Nat) (A:List Nat),(grow n A).length=A.length+n
 |0,A=>rfl
 |n+1,A=>by rw[grow,pk n,qb];simp;omega
theorem uF:∀(n:Nat) (A:List Nat),grow (n+1) A=grow n A++[nxt (grow n A)]
 |0,A=>rfl
 |n+1,A=>by rw[grow,uF n,grow]
theorem ydm(w:List Nat):nxt w < 4294967296:=qba _ oo
theorem pV:∀(n:Nat) (A:List Nat),(∀x∈A,x < 4294967296)->∀x∈grow n A,x < 4294967296
 |0,_,h=>h
 |n+1,A,h=>pV n _ fun x hx=>by
  rcases yf.1 hx with hx | hx
  ·exact h x hx
  ·rw[qs.1 hx];exact ydm A
theorem qY(l:List UInt8)(k:Nat):∀x∈bQ l k,x < 4294967296:=fun x a=>by
 obtain⟨j,_,rfl⟩:=qz.1 a;exact word_lt l j
theorem nxtI(A:List Nat)(i:Nat)(h:A.length=i)(c:∀j,j < i->at0 A j < 4294967296)(g:16<=i):
  IntKind.u32.wrap (IntKind.u32.wrap (IntKind.u32.wrap ((at0 A (i - 16):Nat)+bXor .u32 (mix (at0 A (i - 15)) [7,18] 0:Nat) (shrI .u32 (at0 A (i - 15):Nat) 3))+(at0 A (i - 7):Nat))+bXor .u32 (mix (at0 A (i - 2)) [17,19] 0:Nat) (shrI .u32 (at0 A (i - 2):Nat) 10))=((nxt A:Nat):Int):=by
 have a:=c (i - 15) oo;have d:=c (i - 2) oo;have k:=c (i - 7) oo;have f:=c (i - 16) oo;have e:=shr32 (at0 A (i - 15)) 3 oo;have b:=shr32 (at0 A (i - 2)) 10 oo;simp only[show((3:Nat):Int)=3 from rfl,show((10:Nat):Int)=10 from rfl,show(2:Nat)^3=8 from rfl,show(2:Nat)^10=1024 from rfl]at e b;rw[e,b,xor32 (nd _ a _ _ dd) (yt (qb7 _ _) a),xor32 (nd _ d _ _ dd) (yt (qb7 _ _) d)];unfold nxt;rw[h,w32,w32,w32];omega
variable {L:List Nat}
theorem CA{n:Nat}(h:L.length=n):(List.range n).map (fun j=>at0 L j)=L:=by
 refine List.ext_getElem (by simp[h]) fun j h1 a=>?_
 simp only[yv,List.getElem_range];unfold at0;rw[qc a];rfl
theorem ve(L:List Nat):(L.map encW).flatten=L.map wd:=by
 induction L with
 |nil=>rfl
 |cons a r ih=>simpa[encW]using ih
theorem vU{α:Type}:∀(l:List α),takeN l.length l=some l
 |[]=>rfl
 |x::r=>by simp[takeN,vU r]
theorem xP{α:Type}:∀(l v:List α),l.length=v.length->setN l v=some v
 |[],[],_=>rfl
 |[],_::_,h=>by simp at h
 |_::_,[],h=>by simp at h
 |x::r,y::v,h=>by simp[setN,xP r v (by simpa using h)]
abbrev at64(L:List Nat):List SA:=(List.range 64).map fun j=>wd (at0 L j)
theorem iN(h:L.length=64):at64 L=L.map wd:=by
 have:=congrArg (List.map wd) (CA h);rw[jq]at this;exact this
theorem nH(h:L.length=64):dA (L.map encW).flatten 0 64=some (at64 L):=by
 rw[iN h,ve];have:=vU (L.map wd);rw[qa,h]at this;unfold dA;cases b:L.map wd with
 |nil=>rw[b]at this;exact this
 |cons a r=>rw[b]at this;exact this
theorem set64(h:L.length=64):setAt (L.map encW).flatten 0 (at64 L)=some (L.map encW).flatten:=by
 rw[iN h,ve];have:=xP (L.map wd) (L.map wd) rfl;unfold setAt;cases b:L.map wd with
 |nil=>rw[b]at this;exact this
 |cons a r=>rw[b]at this;exact this
theorem DD(F:Fz)(sa:SA)(l:List UInt8)(ha:Sl F 5 1 encB sa l)(hl:l.length=64):
  Fo prog F 230 [.va sa] (fun o F'=>o=.ret (.agg ((sched l).map wd))/\F'=F):=by
 obtain⟨ah,ae,ag,af,ad,ai,rfl,b,p,ac,q⟩:=ha;refine foS func230 ?_;refine nD 1 (.arr 287 1 ((full []).map encW) 64) rfl (pm rfl rfl) (nY rfl) ?_
 refine aH hΘ (X:={ k:Nat // k<=16 }) (fun k=>[(7,.va (.int .i64 k.1))]) (3::jr 8 38 []) (fun k=>[(0,.frz F),(1,rowW (bQ l k.1))]) 2 (fun k=>16 - k.1) ⟨0,by simp⟩
  (fun f m=>leI [] f m rfl ⟨tv,fM 2 (full (bQ l 0)) 64,tv⟩ ⟨rfl,tv⟩ ⟨Fz.r F,(fP _ (full (bQ l 0)) 64).symm,tv⟩) ?_
 rintro⟨k,hk⟩ f m;by_cases g:k < 16
 ·have J:IntKind.i64.wrap (4*(k:Int))=((4*k+0:Nat):Int):=by rw[aI oo oo];omega
  have T:IntKind.i64.wrap (IntKind.i64.wrap (4*(k:Int))+1)=((4*k+1:Nat):Int):=by rw[J,aI oo oo];omega
  have D:IntKind.i64.wrap (IntKind.i64.wrap (4*(k:Int))+2)=((4*k+2:Nat):Int):=by rw[J,aI oo oo];omega
  have U:IntKind.i64.wrap (IntKind.i64.wrap (4*(k:Int))+3)=((4*k+3:Nat):Int):=by rw[J,aI oo oo];omega
  have M:4*k+0 < l.length:=by omega
  have O:4*k+1 < l.length:=by omega
  have Q:4*k+2 < l.length:=by omega
  have R:4*k+3 < l.length:=by omega
  have hw:=wordI l k l[4*k+0].toNat l[4*k+1].toNat l[4*k+2].toNat l[4*k+3].toNat (qc5 _) (qc5 _) (qc5 _) (qc5 _)
  have aa:(l[4*k+0].toNat*16777216+l[4*k+1].toNat*65536+l[4*k+2].toNat*256+l[4*k+3].toNat:Nat)=word l k:=by
   unfold word;rw[qc O,qc Q,qc R,show l[4*k]? =some l[4*k+0]from qc M];rfl
  rw[aa]at hw;have a:=sA (A:=bQ l k) (word l k) (by simp;omega);have G:bQ l k++[word l k]=bQ l (k+1):=by rw[bQ,bQ,qct,qo];rfl
  rw[show(bQ l k).length=k by simp,G]at a;obtain⟨⟨L,e⟩,a⟩:=a;refine br (fun _=>?_) (fun h=>absurd h (by simp;omega));refine dwS (lk [0,1,2,3,4,5,6,7,8,9,10,11,12,13,14,15,16,17,18,19,20,21,22,23,24,25,26,27,28,29,30,31,32,33,34] (.last 35 .done)) [] ?_;refine⟨Sl.lt b M,⟨by rw[J];omega,by rw[J];omega⟩,rfl,_,p (Sl.lt b M),encB l[4*k+0],(by rw[J];exact Sl.at q M),by decide,Sl.lt b O,⟨by rw[T];omega,by rw[T];omega⟩,rfl,_,p (Sl.lt b O),encB l[4*k+1],(by rw[T];exact Sl.at q O),by decide,Sl.lt b Q,⟨by rw[D];omega,by rw[D];omega⟩,rfl,_,p (Sl.lt b Q),encB l[4*k+2],(by rw[D];exact Sl.at q Q),by decide,Sl.lt b R,⟨by rw[U];omega,by rw[U];omega⟩,rfl,_,p (Sl.lt b R),encB l[4*k+3],(by rw[U];exact Sl.at q R),?_⟩;conv=>whnf
  skip
  skip
  refine⟨⟨by simp,by show(k:Int) < 64;omega⟩,encW L,e,?_⟩;exact⟨⟨k+1,by omega⟩,by show 16 - (k+1) < 16 - k;omega,leR [] f m rfl ⟨tv,fM 2 (full (bQ l (k+1))) 64,tv⟩ ⟨cnt oo,tv⟩ ⟨Fz.r F,(a _ hw).trans (fP _ (full (bQ l (k+1))) 64).symm,tv⟩⟩
 ·have Z:k=16:=by omega
  subst Z;refine brd ss ?_;conv=>whnf
  refine aH hΘ (X:={ i:Nat // 16<=i/\i<=64 }) (fun i=>[(4,.va (.int .i64 i.1))]) (5::6::jr 46 37 []) (fun i=>[(0,.frz F),(1,rowW (grow (i.1 - 16) (bQ l 16)))]) 2 (fun i=>64 - i.1) ⟨16,by simp⟩
   (fun f m=>leI [] f m rfl ⟨tv,fM 2 (full (bQ l 16)) 64,tv⟩ ⟨rfl,tv⟩ ⟨Fz.r F,(fP _ (full (bQ l 16)) 64).symm,tv⟩) ?_
  rintro⟨i,W,aj⟩ f m;have d:(grow (i - 16) (bQ l 16)).length=i:=by rw[pk];simp;omega
  have hA:=pV (i - 16) (bQ l 16) (qY l 16);by_cases g:i < 64
  ·have w:IntKind.i64.wrap ((i:Int) - 15)=((i - 15:Nat):Int):=by rw[aI oo oo];omega
   have D:IntKind.i64.wrap ((i:Int) - 2)=((i - 2:Nat):Int):=by rw[aI oo oo];omega
   have B:IntKind.i64.wrap ((i:Int) - 16)=((i - 16:Nat):Int):=by rw[aI oo oo];omega
   have V:IntKind.i64.wrap ((i:Int) - 7)=((i - 7:Nat):Int):=by rw[aI oo oo];omega
   have c:∀j:Nat,j < i->((full (grow (i - 16) (bQ l 16))).map encW)[(j:Int).toNat]? =some (encW (at0 (grow (i - 16) (bQ l 16)) j)):=fun j Y=>by
    rw[qn,qt,A9 (by rw[d];exact Y)];rfl
   have E:∀j:Nat,j < i->at0 (grow (i - 16) (bQ l 16)) j < 4294967296:=fun j Y=>hA _ (pL (by rw[d];exact Y))
   have u:i - 15 < i:=by omega
   have S:i - 2 < i:=by omega
   have ab:i - 16 < i:=by omega
   have q7:i - 7 < i:=by omega
   have a:=sA (A:=grow (i - 16) (bQ l 16)) (nxt (grow (i - 16) (bQ l 16))) oo;rw[<-uF,d,show i - 16+1=i+1 - 16 by omega]at a;obtain⟨⟨L,e⟩,a⟩:=a;have I:=nxtI (grow (i - 16) (bQ l 16)) i d E W;refine br (fun _=>?_) (fun h=>absurd h (by simp;omega));refine dwS (lk [0,1,2,3,4,5,6,7,8,9] .done) [1] ?_;refine⟨⟨by rw[w];omega,by rw[w];show((i - 15:Nat):Int) < 64;omega⟩,rfl,encW (at0 (grow (i - 16) (bQ l 16)) (i - 15)),(by rw[w];exact c (i - 15) u),⟨by rw[D];omega,by rw[D];show((i - 2:Nat):Int) < 64;omega⟩,rfl,encW (at0 (grow (i - 16) (bQ l 16)) (i - 2)),(by rw[D];exact c (i - 2) S),?_⟩;refine dwS (lk [0,1,2,3,4,5,8,9,12,13,14,15,17,20,21] (.alt 6 (.alt 7 (lk [10,11,16] (.alt 18 (.alt 19 (lk [22,23,24] (.last 25 .done)) .nil) .nil)) (.alt 18 (.alt 7 (lk [10,11,16] (.alt 19 (lk [22,23,24] (.last 25 .done)) .nil)) .nil) .nil)) (.alt 18 (.alt 6 (.alt 7 (lk [10,11,16] (.alt 19 (lk [22,23,24] (.last 25 .done)) .nil)) .nil) .nil) .nil))) [1] ?_;refine⟨⟨by rw[B];omega,by rw[B];show((i - 16:Nat):Int) < 64;omega⟩,rfl,encW (at0 (grow (i - 16) (bQ l 16)) (i - 16)),(by rw[B];exact c (i - 16) ab),by decide,⟨by rw[V];omega,by rw[V];show((i - 7:Nat):Int) < 64;omega⟩,rfl,encW (at0 (grow (i - 16) (bQ l 16)) (i - 7)),(by rw[V];exact c (i - 7) q7),by decide,?_⟩;conv=>whnf
   have m1:∀n∈[7,18],1<=n/\n < 32:=by decide
   have m2:∀n∈[17,19],1<=n/\n < 32:=by decide
   refine⟨?_,?_⟩
   ·refine⟨Fz.r F,rfl,?_,?_⟩
    ·refine mixU [7,18] (E _ u) m1 dd 2 rfl rfl rfl ?_;refine⟨Fz.r F,rfl,Fz.r F,rfl,?_⟩;refine mixU [17,19] (E _ S) m2 dd 3 rfl rfl rfl ?_;refine⟨Fz.r F,rfl,⟨by simp,by show(i:Int) < 64;omega⟩,encW L,e,?_⟩;exact⟨⟨i+1,by omega,by omega⟩,by show 64 - (i+1) < 64 - i;omega,leR [] f m rfl ⟨tv,fM 2 (full (grow (i+1 - 16) (bQ l 16))) 64,tv⟩ ⟨cnt oo,tv⟩ ⟨Fz.r F,(a _ I).trans (fP _ (full (grow (i+1 - 16) (bQ l 16))) 64).symm,tv⟩⟩
    ·refine⟨Fz.r F,rfl,?_⟩;refine mixU [7,18] (E _ u) m1 dd 2 rfl rfl rfl ?_;refine⟨Fz.r F,rfl,?_⟩;refine mixU [17,19] (E _ S) m2 dd 3 rfl rfl rfl ?_;refine⟨Fz.r F,rfl,⟨by simp,by show(i:Int) < 64;omega⟩,encW L,e,?_⟩;exact⟨⟨i+1,by omega,by omega⟩,by show 64 - (i+1) < 64 - i;omega,leR [] f m rfl ⟨tv,fM 2 (full (grow (i+1 - 16) (bQ l 16))) 64,tv⟩ ⟨cnt oo,tv⟩ ⟨Fz.r F,(a _ I).trans (fP _ (full (grow (i+1 - 16) (bQ l 16))) 64).symm,tv⟩⟩
   ·refine⟨Fz.r F,rfl,Fz.r F,rfl,?_⟩;refine mixU [7,18] (E _ u) m1 dd 3 rfl rfl rfl ?_;refine⟨Fz.r F,rfl,?_⟩;refine mixU [17,19] (E _ S) m2 dd 2 rfl rfl rfl ?_;refine⟨Fz.r F,rfl,⟨by simp,by show(i:Int) < 64;omega⟩,encW L,e,?_⟩;exact⟨⟨i+1,by omega,by omega⟩,by show 64 - (i+1) < 64 - i;omega,leR [] f m rfl ⟨tv,fM 2 (full (grow (i+1 - 16) (bQ l 16))) 64,tv⟩ ⟨cnt oo,tv⟩ ⟨Fz.r F,(a _ I).trans (fP _ (full (grow (i+1 - 16) (bQ l 16))) 64).symm,tv⟩⟩
  ·have hi:i=64:=by omega
   subst hi;have hf:full (grow 48 (bQ l 16))=sched l:=A8 d;have s:(full (grow 48 (bQ l 16))).length=64:=by rw[hf];exact d
   have K:∀μ:Mu,(at64 (full (grow 48 (bQ l 16)))).map (SA.ren μ)=(sched l).map wd:=fun μ=>by
    rw[iN s,hf,jq];rfl
   refine brd ss ⟨at64 (full (grow 48 (bQ l 16))),nH s,(full (grow 48 (bQ l 16))).map encW,?_,rfl,set64 s,?_⟩
   ·intro x hx;obtain⟨y,_,rfl⟩:=qz.1 hx;rfl
   refine⟨at64 (full (grow 48 (bQ l 16))),nH s,?_⟩;exact endPu rfl (Fz.r F) (congrArg SV.agg (K _).symm) (by simp[SV.z,SA.z])
def RNDF(F:Fz):Prop:=F 0=some (.arr 287 1 (konst.map encW) 64)
theorem RNDF.mono{F b:Fz}(h:RNDF F)(a:Fz.le F b):RNDF b:=a _ _ h
theorem gJ:konst.length=64:=rfl
theorem Bj:∀x∈konst,x < 4294967296:=by decide+kernel
theorem vR(l:List UInt8):(sched l).length=64:=by rw[sched,pk];simp
theorem B2(l:List UInt8):∀x∈sched l,x < 4294967296:=pV _ _ (qY l 16)
theorem Dq{F:Fz}{a:SA}{l:List UInt8}(c:Sl F 5 1 encB a l)(d:l.length=64):
  Fo prog F 230 [.va a] (fun o b=>o=.ret (.agg (at64 (sched l)))/\b=F):=by
 have:=DD F a l c d;rw[<-iN (vR l)]at this;exact this
theorem uN(h:L.length=64):L.map encW=sing (at64 L):=by
 rw[iN h,sing,jq];rfl
theorem Au{x:SA}(h:(L.map wd)[k]? =some x)(a:L.length=64:=by exact gJ):(at64 L)[((k:Nat):Int).toNat]? =some x:=by
 rw[iN a,qn];exact h
def w8(v:W8):List SA:=[wd v.a,wd v.b,wd v.c,wd v.d,wd v.e,wd v.f,wd v.g,wd v.h]
structure W8.Ok(v:W8):Prop where
 a:v.a < 4294967296
 b:v.b < 4294967296
 c:v.c < 4294967296
 d:v.d < 4294967296
 e:v.e < 4294967296
 f:v.f < 4294967296
 g:v.g < 4294967296
 h:v.h < 4294967296
theorem m32(x:Nat):x % 4294967296 < 4294967296:=qba x (y4 yx (Nat.le_add_left 1 4294967295))
variable {v:W8}
theorem B7{w:Nat}(h:v.Ok):(step8 k w v).Ok:=⟨m32 _,h.a,h.b,h.c,m32 _,h.e,h.f,h.g⟩
theorem Cw(v u:W8):(add8 v u).Ok:=⟨m32 _,m32 _,m32 _,m32 _,m32 _,m32 _,m32 _,m32 _⟩
theorem DG(l:List (Nat×Nat))(x:Nat×Nat)(v:W8):eX (l++[x]) v=step8 x.1 x.2 (eX l v):=by
 unfold eX;rw[qbd,qai,qbt]
theorem wC8{t:Nat}{a b c d e f g h:Int}(i:a=v.a)(j:b=v.b)(k:c=v.c)(l:d=v.d)(m:e=v.e)(n:f=v.f)(o:g=v.g)(p:h=v.h):
  SB.cells t [.int .u32 a,.int .u32 b,.int .u32 c,.int .u32 d,.int .u32 e,.int .u32 f,.int .u32 g,.int .u32 h]=SB.cells t (w8 v):=by
 subst i j k l m n o p;rfl
theorem stepI{w:Nat}(h:v.Ok)(_:k < 4294967296)(_:w < 4294967296):
  IntKind.u32.wrap (IntKind.u32.wrap (IntKind.u32.wrap (IntKind.u32.wrap ((v.h:Nat)+(mix v.e [6,11,25] 0:Nat))+bXor .u32 (bAnd .u32 (v.e:Nat) (v.f:Nat)) (bAnd .u32 (bXor .u32 4294967295 (v.e:Nat)) (v.g:Nat)))+(k:Nat))+(w:Nat))=
   (((v.h+mix v.e [6,11,25] 0+((v.e&&&v.f)^^^((4294967295 - v.e)&&&v.g))+k+w) % 4294967296:Nat):Int):=by
 rw[not32 h.e,and32 h.e h.f,and32 oo h.g,xor32 (yt qcu h.e) (yt Nat.and_le_right h.g),w32,w32,w32,w32];omega
theorem stepJ(h:v.Ok):
  IntKind.u32.wrap ((mix v.a [2,13,22] 0:Nat)+bXor .u32 (bXor .u32 (bAnd .u32 (v.a:Nat) (v.b:Nat)) (bAnd .u32 (v.a:Nat) (v.c:Nat))) (bAnd .u32 (v.b:Nat) (v.c:Nat)))=
   (((mix v.a [2,13,22] 0+((v.a&&&v.b)^^^(v.a&&&v.c)^^^(v.b&&&v.c))) % 4294967296:Nat):Int):=by
 have d:v.a&&&v.b < 4294967296:=yt qcu h.a;have e:v.a&&&v.c < 4294967296:=yt qcu h.a;have f:v.b&&&v.c < 4294967296:=yt qcu h.b;rw[and32 h.a h.b,and32 h.a h.c,and32 h.b h.c,xor32 d e,xor32 (qc3 (n:=32) d e) f,w32];omega
theorem stepA{w:Nat}(h:v.Ok)(d:k < 4294967296)(i:w < 4294967296):
  IntKind.u32.wrap (IntKind.u32.wrap (IntKind.u32.wrap (IntKind.u32.wrap (IntKind.u32.wrap ((v.h:Nat)+(mix v.e [6,11,25] 0:Nat))+bXor .u32 (bAnd .u32 (v.e:Nat) (v.f:Nat)) (bAnd .u32 (bXor .u32 4294967295 (v.e:Nat)) (v.g:Nat)))+(k:Nat))+(w:Nat))+
   IntKind.u32.wrap ((mix v.a [2,13,22] 0:Nat)+bXor .u32 (bXor .u32 (bAnd .u32 (v.a:Nat) (v.b:Nat)) (bAnd .u32 (v.a:Nat) (v.c:Nat))) (bAnd .u32 (v.b:Nat) (v.c:Nat))))=(((step8 k w v).a:Nat):Int):=by
 rw[stepI h d i,stepJ h,<-qcr,w32n];rfl
theorem stepE{w:Nat}(h:v.Ok)(a:k < 4294967296)(b:w < 4294967296):
  IntKind.u32.wrap ((v.d:Nat)+IntKind.u32.wrap (IntKind.u32.wrap (IntKind.u32.wrap (IntKind.u32.wrap ((v.h:Nat)+(mix v.e [6,11,25] 0:Nat))+bXor .u32 (bAnd .u32 (v.e:Nat) (v.f:Nat)) (bAnd .u32 (bXor .u32 4294967295 (v.e:Nat)) (v.g:Nat)))+(k:Nat))+(w:Nat)))=(((step8 k w v).e:Nat):Int):=by
 rw[stepI h a b,<-qcr,w32n];rfl
theorem add32(x y:Nat):IntKind.u32.wrap ((x:Int)+(y:Int))=(((x+y) % 4294967296:Nat):Int):=by rw[<-qcr,w32n]
abbrev rowS(A:List Nat):Ent:=.one (.arr 287 1 (A.map encW) 64)
theorem fi(n t:Nat)(v:W8):(SB.cells t (w8 v)).below n:=by
 intro a b;simp only[w8,qh,qq,or_false]at b;rcases b with rfl | rfl | rfl | rfl | rfl | rfl | rfl | rfl<;>trivial
theorem ycf(F:Fz)(Y:RNDF F)(O:SA)(l:List UInt8)(v:W8)(L:Sl F 5 1 encB O l)(hl:l.length=64)(hv:v.Ok):
  Ct prog 175 [.va (.ptr ⟨1,0,0,0,0⟩),.va O] F [(1,.one (.cells 246 (w8 v)))] 2 (fun o Q h n=>o=.ret (.tup [])/\Q=F/\h=[(1,.one (.cells 246 (w8 (fC l v))))]/\n=2):=by
 have J:=Dq L hl;obtain⟨W,K,i,B⟩:∃W,sched l=W/\W.length=64/\∀x∈W,x < 4294967296:=⟨_,rfl,vR l,B2 l⟩
 rw[K]at J;have E:fC l v=add8 v (eX (konst.zip W) v):=by rw[fC,K]
 obtain⟨ah,ae,ag,af,ad,ai,rfl,Z,aa,ab,ac⟩:=L;refine ctS func175 ?_;refine usePs (J) ?_;conv=>whnf
 refine⟨_,Y,at64 konst,nH gJ,?_⟩;refine nD 2 (.arr 287 1 (W.map encW) 64) rfl (pm (uN i) rfl) (nY (uN i)) ?_
 refine aH hΘ (X:={ x:Nat×W8 // x.1<=64/\x.2=eX ((konst.zip W).take x.1) v/\x.2.Ok }) (fun x=>[(19,.va (.int .i64 x.1.1))]) (jr 6 6 (jr 20 62 [])) (fun x=>[(0,.frz F),(1,.one (.cells 246 (w8 v))),(2,rowS W),(3,.one (.cells 246 (w8 x.1.2)))]) 4 (fun x=>64 - x.1.1) ⟨(0,v),by simp,by rw[List.take_zero];rfl,hv⟩
  (fun w y=>leI [] w y rfl ⟨tv,fi 4 246 v,fM 4 W 64,fi 4 246 v,tv⟩ ⟨rfl,tv⟩ ⟨Fz.r F,rfl,(fP _ W 64).symm,rfl,tv⟩) ?_
 rintro⟨⟨k,a,b,c,d,e,f,g,j⟩,M,A,p⟩ w y;replace M:k<=64:=M;by_cases R:k < 64
 ·have V:(konst.map wd)[k]? =some (wd (at0 konst k)):=by
   rw[qt];unfold at0;rw[qc (by rw[gJ];omega)];rfl
  have D:(W.map encW)[((k:Nat):Int).toNat]? =some (encW (at0 W k)):=by
   rw[qn,qt];unfold at0;rw[qc oo];rfl
  have s:at0 konst k < 4294967296:=Bj _ (pL (by rw[gJ];omega));have u:at0 W k < 4294967296:=B _ (pL oo);have S:=stepA p s u;have U:=stepE p s u
  have m:step8 (at0 konst k) (at0 W k) ⟨a,b,c,d,e,f,g,j⟩=eX ((konst.zip W).take (k+1)) v:=by
   have I:k < (konst.zip W).length:=by rw[qao,gJ,i];omega
   rw[qf I,DG,qde,<-A];unfold at0;rw[qc (by rw[gJ];omega),qc oo];rfl
  refine br (fun _=>?_) (fun h=>absurd h (by simp;omega));refine⟨⟨by simp,by show(k:Int) < 64;omega⟩,[wd (at0 konst k)],?_,?_⟩
  ·exact og (Au V)
  refine dwS (lk [0,1,2,3,4,5] .done) [3] ?_;conv=>whnf
  repeat' ((conv=>whnf);first
   |refine⟨rfl,?_⟩
   |refine⟨Fz.r _,rfl,?_⟩
   |refine⟨Fz.r _,rfl,rfl,?_⟩
   |refine⟨⟨by simp,by simp⟩,?_⟩
   |fail)
  refine dwS (lk [0,1,2,6,7,8,9,10,11,12,13,14,15,17,19,20,21] (.alt 3 (.alt 4 (lk [5,16,18,22,23] .done) .nil) .nil)) [2,3] ?_;conv=>whnf
  repeat' ((conv=>whnf);first
   |refine⟨rfl,?_⟩
   |refine⟨encW (at0 W k),D,?_⟩
   |refine⟨⟨jz k,Int.ofNat_lt.2 R⟩,?_⟩
   |refine⟨⟨by decide,by decide⟩,?_⟩
   |fail)
  refine⟨Fz.r F,rfl,rfl,?_⟩;refine mixU [6,11,25] p.e dd dd 4 rfl rfl rfl ?_;refine⟨Fz.r F,rfl,rfl,?_⟩
  repeat' ((conv=>whnf);first
   |refine⟨rfl,?_⟩
   |refine⟨Fz.r _,rfl,?_⟩
   |refine⟨Fz.r _,rfl,rfl,?_⟩
   |refine⟨⟨by simp,by simp⟩,?_⟩
   |fail)
  refine dwS (lk [0,3,4,5,6,7,8,9,10,11,12,13,14,15,16,17] (.alt 1 (.alt 2 (.look 18 (.look 19 .done)) .nil) .nil)) [3] ?_;conv=>whnf
  repeat' ((conv=>whnf);first
   |refine⟨rfl,?_⟩
   |refine⟨Fz.r _,rfl,?_⟩
   |refine⟨Fz.r _,rfl,rfl,?_⟩
   |refine⟨⟨by simp,by simp⟩,?_⟩
   |fail)
  refine mixU [2,13,22] p.a dd dd 5 rfl rfl rfl ?_;refine⟨Fz.r F,rfl,?_⟩
  repeat' ((conv=>whnf);first
   |refine⟨rfl,?_⟩
   |refine⟨Fz.r _,rfl,?_⟩
   |refine⟨Fz.r _,rfl,rfl,?_⟩
   |refine⟨⟨by simp,by simp⟩,?_⟩
   |fail)
  refine dwS (.look 0 (.look 1 (.last 2 .done))) [3] ?_;conv=>whnf
  repeat' ((conv=>whnf);first
   |refine⟨⟨by decide,by decide⟩,?_⟩
   |refine⟨rfl,?_⟩
   |fail)
  exact⟨⟨(k+1,step8 (at0 konst k) (at0 W k) ⟨a,b,c,d,e,f,g,j⟩),by show k+1<=64;omega,m,B7 p⟩,by show 64 - (k+1) < 64 - k;omega,
   leR [] w y rfl ⟨tv,fi 4 246 v,fM 4 W 64,fi 4 246 (step8 (at0 konst k) (at0 W k) ⟨a,b,c,d,e,f,g,j⟩),tv⟩ ⟨cnt oo,tv⟩ ⟨Fz.r F,rfl,(fP _ W 64).symm,wC8 S rfl rfl rfl U rfl rfl rfl,tv⟩⟩
 ·have G:k=64:=by omega
  subst G
  have q:(⟨a,b,c,d,e,f,g,j⟩:W8)=eX (konst.zip W) v:=by
   rw[ql (by rw[qao,gJ,i];omega)]at A;exact A
  have T:fC l v=add8 v ⟨a,b,c,d,e,f,g,j⟩:=by rw[E,q]
  refine brd ss ?_;conv=>whnf
  refine rr hΘ 8 ?_;refine bre dd ?_;refine dwS (lk [0,1,2,3,5,6,7,9] (.alt 4 (.look 8 (.look 10 (.alt 11 .done .nil))) .nil)) [3] ?_;conv=>whnf
  repeat' ((conv=>whnf);first
   |refine⟨Fz.r F,rfl,?_⟩
   |refine⟨rfl,?_⟩
   |refine⟨⟨by decide,by decide⟩,?_⟩
   |fail)
  conv=>whnf
  refine sr_go hΘ ?_;refine bre dd ?_;refine dwS (lk [0,1,2,3,5,6,7,9] (.alt 4 (.look 8 (.look 10 (.alt 11 .done .nil))) .nil)) [3] ?_;conv=>whnf
  repeat' ((conv=>whnf);first
   |refine⟨Fz.r F,rfl,?_⟩
   |refine⟨rfl,?_⟩
   |refine⟨⟨by decide,by decide⟩,?_⟩
   |fail)
  conv=>whnf
  refine sr_go hΘ ?_;refine bre dd ?_;refine dwS (lk [0,1,2,3,5,6,7,9] (.alt 4 (.look 8 (.look 10 (.alt 11 .done .nil))) .nil)) [3] ?_;conv=>whnf
  repeat' ((conv=>whnf);first
   |refine⟨Fz.r F,rfl,?_⟩
   |refine⟨rfl,?_⟩
   |refine⟨⟨by decide,by decide⟩,?_⟩
   |fail)
  conv=>whnf
  refine sr_go hΘ ?_;refine bre dd ?_;refine dwS (lk [0,1,2,3,5,6,7,9] (.alt 4 (.look 8 (.look 10 (.alt 11 .done .nil))) .nil)) [3] ?_;conv=>whnf
  repeat' ((conv=>whnf);first
   |refine⟨Fz.r F,rfl,?_⟩
   |refine⟨rfl,?_⟩
   |refine⟨⟨by decide,by decide⟩,?_⟩
   |fail)
  conv=>whnf
  refine sr_go hΘ ?_;refine bre dd ?_;refine dwS (lk [0,1,2,3,5,6,7,9] (.alt 4 (.look 8 (.look 10 (.alt 11 .done .nil))) .nil)) [3] ?_;conv=>whnf
  repeat' ((conv=>whnf);first
   |refine⟨Fz.r F,rfl,?_⟩
   |refine⟨rfl,?_⟩
   |refine⟨⟨by decide,by decide⟩,?_⟩
   |fail)
  conv=>whnf
  refine sr_go hΘ ?_;refine bre dd ?_;refine dwS (lk [0,1,2,3,5,6,7,9] (.alt 4 (.look 8 (.look 10 (.alt 11 .done .nil))) .nil)) [3] ?_;conv=>whnf
  repeat' ((conv=>whnf);first
   |refine⟨Fz.r F,rfl,?_⟩
   |refine⟨rfl,?_⟩
   |refine⟨⟨by decide,by decide⟩,?_⟩
   |fail)
  conv=>whnf
  refine sr_go hΘ ?_;refine bre dd ?_;refine dwS (lk [0,1,2,3,5,6,7,9] (.alt 4 (.look 8 (.look 10 (.alt 11 .done .nil))) .nil)) [3] ?_;conv=>whnf
  repeat' ((conv=>whnf);first
   |refine⟨Fz.r F,rfl,?_⟩
   |refine⟨rfl,?_⟩
   |refine⟨⟨by decide,by decide⟩,?_⟩
   |fail)
  conv=>whnf
  refine sr_go hΘ ?_;refine bre dd ?_;refine dwS (lk [0,1,2,3,5,6,7,9] (.alt 4 (.look 8 (.look 10 (.alt 11 .done .nil))) .nil)) [3] ?_;conv=>whnf
  repeat' ((conv=>whnf);first
   |refine⟨Fz.r F,rfl,?_⟩
   |refine⟨rfl,?_⟩
   |refine⟨⟨by decide,by decide⟩,?_⟩
   |fail)
  conv=>whnf
  refine sr_go hΘ ?_;refine brd dd ?_
  exact clean [] (.ret (.tup [])) F [(1,.one (.cells 246 (w8 (add8 v ⟨a,b,c,d,e,f,g,j⟩))))] 2 ⟨Fz.r F,rfl,rfl,by rw[T],rfl⟩ trivial rfl rfl (Out.bB_ok (o:=.ret (.tup [])) rfl) ⟨fi 2 246 (add8 v ⟨a,b,c,d,e,f,g,j⟩),tv⟩
   ⟨Fz.r F,wC8 (add32 v.a a) (add32 v.b b) (add32 v.c c) (add32 v.d d) (add32 v.e e) (add32 v.f f) (add32 v.g g) (add32 v.h j),tv⟩
