import Derived.Test.YtfnkamphhpldcaaGreatDoorK20
import Derived.Test.YtfnkamphhpldcaaGreatDoorK11
import Derived.Laws.BitsAllLaws
import Derived.Test.YtfnkamphhpldcaaGreatDoorProg
set_option maxHeartbeats 64000000
namespace Go.Proofs.YtfnkamphhpldcaaGreatDoor
open Go Sx Tryz
set_option maxRecDepth 100000
def rndN(a:Int):List Int->List Int
 |x::y::z::r=>x::y::(z - z.tmod a)::r
 |l=>l
theorem BP(F:Fz)(L:List Ln)(i c:Nat)(caps:Nat->Nat)(t:List UInt8)(x y z a:Int)(r:List Int)(h:L[i]? =some (t,x::y::z::r))(p:0 < a)(I:-1000000000000000000<=z)(E:z<=1000000000000000000)(u:a<=1000000000000000000):
  Ct prog 191 [.va (.ptr ⟨1,0,i,2,0⟩),.va (.int .i64 a)] F [(1,bG 2 caps c L),(2,famE caps L)] 3
   (stepK F c caps (L.set i (t,rndN a (x::y::z::r)))):=by
 have b:=gD 2 caps 0 L i _ h;rw[q9]at b;have j:i < L.length:=(qg.1 h).1;have e:=iS caps h;rcases L with _ | ⟨a0,ar⟩
 ·exact absurd j ss
 have q:((x::y::z::r).length=(rndN a (x::y::z::r)).length):=rfl;have l:=um (B:=2) (caps:=caps) (c:=c) q h;have m:∀μ:Mu,(∀k,μ 2 k=(2,k))->subE (some (bG 2 caps c (a0::ar))) ((bG 2 caps c ((a0::ar).set i (t,rndN a (x::y::z::r)))).ren μ):=fun μ G=>by rw[l];exact ee G
 have A:z.tmod a < a:=qb9 _ p
 have w:-a < z.tmod a:=by
  have h1:(-z).tmod a < a:=qb9 _ p;rw[Int.neg_tmod]at h1;omega
 have g:IntKind.i64.wrap (z - z.tmod a)=z - z.tmod a:=aI oo oo;have o:IntKind.i64.wrap (z - IntKind.i64.wrap (z.tmod a))=z - z.tmod a:=by rw[aI (n:=z.tmod a) oo oo,g]
 have s:∀v,v=z - z.tmod a->(List.map encI ((List.map (fun x:Ln=>x.snd) (a0::ar)).getD i [])).set 2 [.int .i64 v]=(rndN a (x::y::z::r)).map encI:=by
  intro v D;subst D;rw[e,rndN];rfl
 have d:(!((List.map (fun x:Ln=>x.snd) (a0::ar)).getD i []).isEmpty)=true:=by rw[e];rfl
 have f:(List.map encI ((List.map (fun x:Ln=>x.snd) (a0::ar)).getD i []))[2]? =some [.int .i64 z]:=by rw[e];rfl
 refine ctS func191 ?_;refine dwS (lk [0,1,2,3,4,5,6,7,8,9,10,11,12,13,14,15] (.last 16 .done)) [1,2] ?_;refine⟨rfl,rfl,_,b,rfl,⟨by simp,by show(2:Int) < ((r.length+1+1+1:Nat):Int);omega⟩,rfl,⟨j,d⟩,_,f,rfl,rfl,_,b,rfl,⟨by simp,by show(2:Int) < ((r.length+1+1+1:Nat):Int);omega⟩,rfl,⟨j,d⟩,_,f,oo,rfl,⟨by simp,by show(2:Int) < ((r.length+1+1+1:Nat):Int);omega⟩,⟨j,d⟩,_,f,?_⟩;refine clean [] (.ret (.tup [])) F [(1,bG 2 caps c ((a0::ar).set i (t,rndN a (x::y::z::r)))),(2,famE caps ((a0::ar).set i (t,rndN a (x::y::z::r))))] 3 ⟨Fz.r F,rfl,rfl,rfl,rfl⟩ (aP _) rfl rfl (by simp[Out.below,SV.below]) ⟨c8 oo _ _ _,c9 _ _ _,tv⟩ ⟨Fz.r F,?_,?_,tv⟩
 ·exact m _ (fun k=>rfl)
 ·refine rZ q h ss ?_
  first
  |exact s _ g
  |exact s _ o
def valE(v:Val)(i c:Nat):Ent:=.one (.cells 201 [.lit v.lost,gA 2 i c v.lines,.int .i64 v.w,.int .i64 v.h,.str v.bits])
def lnE(B:Nat)(caps:Nat->Nat)(c:Nat):List Ln->Ent
 |[]=>.gone
 |x::r=>bG B caps c (x::r)
def fmE(caps:Nat->Nat):List Ln->Ent
 |[]=>.gone
 |x::r=>famE caps (x::r)
theorem zp{n B:Nat}(h:B < n)(caps:Nat->Nat)(c:Nat)(l:List Ln):(lnE B caps c l).below n:=by
 cases l with
 |nil=>trivial
 |cons x r=>exact c8 h _ _ _
theorem EJ(n:Nat)(caps:Nat->Nat)(l:List Ln):(fmE caps l).below n:=by
 cases l with
 |nil=>trivial
 |cons x r=>exact c9 _ _ _
def valM(v:Val)(c:Nat)(caps:Nat->Nat):List (Nat×Ent):=[(1,valE v 2 c),(2,lnE 3 caps c v.lines),(3,fmE caps v.lines)]
def stepV(F:Fz)(v:Val):Out->Fz->List (Nat×Ent)->Nat->Prop:=fun o a b n0=>a=F/\n0=4/\o=.ret (.tup [])/\∃c caps,b=valM v c caps
theorem e9{α:Type}{n i:Nat}(h:i < n)(sz c:Nat)(l:List α):(gA sz i c l).below n:=by
 cases l with
 |nil=>trivial
 |cons x r=>exact .inr h
theorem gF{v:Val}{n i:Nat}(h:i < n)(c:Nat):(valE v i c).below n:=by
 show∀a∈_,SA.below n a;intro a b;simp only[qh,qq,or_false]at b;rcases b with rfl | rfl | rfl | rfl | rfl
 ·trivial
 ·exact e9 h _ _ _
 ·trivial
 ·trivial
 ·trivial
theorem iL(v:Val)(c:Nat)(caps:Nat->Nat):bH 4 (valM v c caps):=⟨gF oo _,zp oo _ _ _,EJ _ _ _,tv⟩
def loseV:Val:=⟨true,[],0,0,[]⟩
theorem ya3(F:Fz)(v:Val)(a:Int)(c:Nat)(caps:Nat->Nat):
  Ct prog 195 [.va (.ptr ⟨1,0,0,0,0⟩),.va (.int .i64 a)] F (valM v c caps) 4 (stepV F loseV):=by
 refine ctS func195 ?_;refine clean [] (.ret (.tup [])) F (valM loseV 0 (fun _=>0)) 4 ⟨Fz.r F,rfl,rfl,rfl,0,fun _=>0,rfl⟩ (aP _) rfl rfl (by simp[Out.below,SV.below]) (iL _ _ _) ⟨Fz.r F,rfl,tv⟩
def upTo(f:Ln->Ln)(L:List Ln)(k:Nat):List Ln:=(L.take k).map f++L.drop k
theorem Ce(f:Ln->Ln)(L:List Ln)(k:Nat):(upTo f L k).length=L.length:=by
 unfold upTo;simp only[qb,qa,qk,yj];omega
variable {L:List Ln}
theorem Cd(f:Ln->Ln){k:Nat}{x:Ln}(h:L[k]? =some x):(upTo f L k)[k]? =some x:=by
 have a:=(qg.1 h).1;unfold upTo;rw[jt (by simp only[qa,qk];omega),yz];have:k+(k - ((L.take k).map f).length)=k:=by simp only[qa,qk];omega
 rw[this,h]
theorem Cf(f:Ln->Ln){k:Nat}{x:Ln}(h:L[k]? =some x):(upTo f L k).set k (f x)=upTo f L (k+1):=by
 obtain⟨a,b⟩:=qg.1 h;unfold upTo;rw[qbo _ _ (by simp only[qa,qk];omega)];have e:k - ((L.take k).map f).length=0:=by simp only[qa,qk];omega
 rw[e,jj a,qax,qf a,qo,b];simp
theorem Cc(f:Ln->Ln)(L:List Ln):upTo f L L.length=L.map f:=by
 unfold upTo;simp
variable {l:List Ln}{μ:Mu}{caps:Nat->Nat}
theorem nQ{τ:Mu}{B a B' c:Nat}{b:List Ln}(f:∀k,τ B k=(B',k))(d:∀k,μ a k=(B',k))(e:l=b):subE (some ((bG B caps c l).ren τ)) ((bG a caps c b).ren μ):=by
 subst e;exact⟨rfl,congrArg (fun L=>SB.arr 259 2 L c) ((io (m:=l.length) (fun k _=>⟨f k,rfl⟩) 0 l oo).trans (io (m:=l.length) (fun k _=>⟨d k,rfl⟩) 0 l oo).symm)⟩
theorem oP{τ:Mu}{a:List Ln}(e:l=a):subE (some ((famE caps l).ren τ)) ((famE caps a).ren μ):=by
 subst e;rw[lZ];exact dW
theorem tu{a B' c:Nat}{b:List Ln}(d:∀k,μ a k=(B',k))(e:l=b):subE (some (bG B' caps c l)) ((bG a caps c b).ren μ):=by
 subst e;exact ee d
theorem vf{a:List Ln}(e:l=a):subE (some (famE caps l)) ((famE caps a).ren μ):=by
 subst e;exact dW
def rQ(g:Nat)(F:Fz)(c:Nat)(caps:Nat->Nat)(a:Int)(f:Ln->Ln)(x:Ln):Prop:=
 ∀(L:List Ln) (i:Nat),L[i]? =some x->Ct prog g [.va (.ptr ⟨1,0,i,2,0⟩),.va (.int .i64 a)] F [(1,bG 2 caps c L),(2,famE caps L)] 3 (stepK F c caps (L.set i (f x)))
theorem AX(F:Fz)(g b:Nat)(f:Ln->Ln)(w h:Int)(bits:List UInt8)(d:Bool)(L:List Ln)(a:Int)(c:Nat)(caps:Nat->Nat)(V:F b=some (eF g))(I:L≠[])(W:L.length<=1000000)(U:∀x∈L,rQ g F c caps a f x):
  Ct prog 246 [.va (.ptr ⟨1,0,0,0,0⟩),.va (.int .i64 a),.va (.ptr (fp b))] F (valM ⟨d,L,w,h,bits⟩ c caps) 4 (stepV F ⟨d,L.map f,w,h,bits⟩):=by
 rcases L with _ | ⟨a0,ar⟩
 ·exact absurd rfl I
 have Y:ar.length+1<=1000000:=W;refine ctS func246 ?_;conv=>whnf
 refine aH hΘ (X:={ x:Nat×Ln×List Ln // x.1<=ar.length+1/\x.2.1::x.2.2=upTo f (a0::ar) x.1 }) (fun x=>[(11,.va (.int .i64 x.1.1))]) (5::jr 12 12 [])
  (fun x=>[(0,.frz F),(1,valE ⟨d,a0::ar,w,h,bits⟩ 2 c),(2,bG 3 caps c (x.1.2.1::x.1.2.2)),(3,famE caps (x.1.2.1::x.1.2.2))]) 4 (fun x=>ar.length+1 - x.1.1) ⟨(0,a0,ar),by simp,by simp[upTo]⟩
  (fun E G=>leI [] E G rfl ⟨tv,gF oo _,c8 oo _ _ _,c9 _ _ _,tv⟩ ⟨rfl,tv⟩ ⟨Fz.r F,rfl,ee (fun k=>rfl),dW (μ:=sig []) (caps:=caps) (l:=a0::ar),tv⟩) ?_
 rintro⟨⟨k,m,p⟩,R,e⟩ E G;replace R:k<=ar.length+1:=R;replace e:m::p=upTo f (a0::ar) k:=e;refine br (fun y=>?_) (fun y=>?_)
 ·have D:k < ar.length+1:=by
   have Q:(k:Int) < ((ar.length+1:Nat):Int):=od y;omega
  clear y;have i:∃x,(a0::ar)[k]? =some x:=⟨_,qc D⟩
  obtain⟨x,i⟩:=i;have O:=yw i;have K:(m::p)[k]? =some x:=by rw[e];exact Cd f i
  have B:(m::p).set k (f x)=upTo f (a0::ar) (k+1):=by rw[e];exact Cf f i
  have M:(m::p)[0+k]? =some x:=by rw[q9];exact K
  have q:=U x O (m::p) (0+k) M
  have j:∃s u,s::u=upTo f (a0::ar) (k+1):=by
   have o:=Ce f (a0::ar) (k+1);cases hu:upTo f (a0::ar) (k+1)with
   |nil=>rw[hu]at o;simp at o
   |cons s u=>exact⟨s,u,rfl⟩
  obtain⟨s,u,j⟩:=j;have A:(m::p).set (0+k) (f x)=s::u:=by rw[q9,B,j]
  refine dwS (lk [0,1,2,3,4,5,6,7] (.alt 8 .done .nil)) [0,1] ?_;conv=>whnf
  repeat' ((conv=>whnf);first
   |refine⟨rfl,?_⟩
   |refine⟨Fz.r _,rfl,?_⟩
   |refine⟨Fz.r _,rfl,rfl,?_⟩
   |refine⟨⟨by simp,by simp⟩,?_⟩
   |fail)
  refine⟨_,V,rfl,rfl,⟨by simp,by show(k:Int) < ((ar.length+1:Nat):Int);omega⟩,?_⟩;refine useS q [(1,2),(2,3)] ⟨c8 oo _ _ _,c9 _ _ _,tv⟩ ⟨ee (fun k=>rfl),dW (caps:=caps) (l:=m::p),tv⟩ ?_;rintro S F0 Q n1 Z ⟨rfl,rfl,rfl,rfl⟩;refine⟨Fz.r _,rfl,rfl,?_⟩
  exact⟨⟨(k+1,s,u),by show k+1<=ar.length+1;omega,j⟩,by show ar.length+1 - (k+1) < ar.length+1 - k;omega,
   leR [] E G rfl ⟨tv,gF oo _,c8 oo _ _ _,c9 _ _ _,tv⟩ ⟨cnt oo,tv⟩
   ⟨Fz.r _,rfl,nQ (fun k=>rfl) (fun k=>rfl) A,oP A,tv⟩⟩
 ·have D:k=ar.length+1:=by
   have Q:¬(k:Int) < ((ar.length+1:Nat):Int):=oe y;omega
  clear y;have n:m::p=(a0::ar).map f:=by rw[e,D];exact Cc f (a0::ar)
  have T:valE ⟨d,a0::ar,w,h,bits⟩ 2 c=valE ⟨d,f a0::ar.map f,w,h,bits⟩ 2 c:=by
   simp[valE,gA]
  have J:∀μ:Mu,μ 2 0=(2,0)->subE (some (valE ⟨d,a0::ar,w,h,bits⟩ 2 c)) ((valE ⟨d,f a0::ar.map f,w,h,bits⟩ 2 c).ren μ):=by
   intro μ hμ;rw[<-T];show _=_;simp[SB.ren,gA,SA.ren,hμ]
  refine clean [] (.ret (.tup [])) F (valM ⟨d,f a0::ar.map f,w,h,bits⟩ c caps) 4 ⟨Fz.r F,rfl,rfl,rfl,c,caps,rfl⟩ (aP _) rfl rfl (by simp[Out.below,SV.below]) (iL _ _ _) ⟨Fz.r F,?_,?_,?_,tv⟩
  ·exact J _ rfl
  ·exact tu (fun k=>rfl) n
  ·exact vf n
theorem tr{B:Nat}{caps:Nat->Nat}{t':List UInt8}{n:List Int}:∀(j:Nat) (L:List Ln) (i:Nat),bM B caps j (L.set i (t',n))=(bM B caps j L).set i [.str t',nA B (j+i) (caps (j+i)) n]
 |j,[],i=>by simp[bM]
 |j,y::r,0=>by
  rw[qax,bM,bM,qax];rfl
 |j,y::r,i+1=>by
  rw[qc2,bM,bM,tr (j+1) r i,qc2];have:j+1+i=j+(i+1):=by omega
  rw[this]
theorem oO{t t':List UInt8}{n:List Int}{i:Nat}(h:L[i]? =some (t,n)):famE caps (L.set i (t',n))=famE caps L:=by
 have a:(L.set i (t',n)).map (·.2)=L.map (·.2):=by
  rw[qbw];exact pz (by rw[qt,h];rfl)
 unfold famE;rw[qbm,a]
theorem vv{c:Nat}{t':List UInt8}{n:List Int}{i:Nat}{a:List (List SA)}(b:L≠[])(g:a=(bM 2 caps 0 L).set i [.str t',nA 2 i (caps i) n])(h:∀k,μ 2 k=(2,k)):
  subE (some (.opt true (.arr 259 2 a c))) ((bG 2 caps c (L.set i (t',n))).ren μ):=by
 have e:=tr (B:=2) (caps:=caps) (t':=t') (n:=n) 0 L i;rw[q9]at e;rw[g,<-e];have d:=ee (B:=2) (B':=2) (caps:=caps) (c:=c) (l:=L.set i (t',n)) h
 have f:(!(L.set i (t',n)).isEmpty)=true:=by
  cases L with
  |nil=>exact absurd rfl b
  |cons x r=>cases i<;>rfl
 rw[bG,f]at d;rw[bG,f];exact d
def LFun(a:List UInt8->List UInt8):Prop:=∀(F:Fz) (s:List UInt8),s.length<=70000->(∀b∈s,b.toNat < 128)->Fo prog F 247 [.va (.str s)] (fun o c=>F=c/\o=.ret (.va (.str (a s))))
theorem yam{e:List UInt8->List UInt8}(j:LFun e)(F:Fz)(L:List Ln)(i c:Nat)(caps:Nat->Nat)(t:List UInt8)(n:List Int)(a:Int)(h:L[i]? =some (t,n))(m:t.length<=70000)(f:∀b∈t,b.toNat < 128):
  Ct prog 188 [.va (.ptr ⟨1,0,i,2,0⟩),.va (.int .i64 a)] F [(1,bG 2 caps c L),(2,famE caps L)] 3
   (stepK F c caps (L.set i (e t,n))):=by
 have d:=gD 2 caps 0 L i _ h;rw[q9]at d;have l:i < L.length:=(qg.1 h).1;rcases L with _ | ⟨a0,ar⟩
 ·exact absurd l ss
 have g:∀μ:Mu,subE (some (famE caps (a0::ar))) ((famE caps ((a0::ar).set i (e t,n))).ren μ):=fun μ=>by
  rw[oO h];exact dW
 refine ctS func188 ?_;refine⟨rfl,_,d,?_⟩;refine useFt (j F t m f) ?_;rintro _ _ o ⟨rfl,rfl⟩;refine⟨rfl,_,d,?_⟩;refine clean [] (.ret (.tup [])) F [(1,bG 2 caps c ((a0::ar).set i (e t,n))),(2,famE caps ((a0::ar).set i (e t,n)))] 3 ⟨Fz.r F,rfl,rfl,rfl,rfl⟩ (aP _) rfl rfl (by simp[Out.below,SV.below]) ⟨c8 oo _ _ _,c9 _ _ _,tv⟩ ⟨Fz.r F,?_,?_,tv⟩
 ·exact vv (t':=e t) (n:=n) ss rfl (fun k=>rfl)
 ·exact g _
def hasD:List UInt8->Bool
 |a::b::r=>(a==32&&b==32)||hasD (b::r)
 |_=>false
def repD:List UInt8->List UInt8
 |a::b::r=>if a==32&&b==32 then 32::repD r else a::repD (b::r)
 |l=>l
theorem mP:∀l:List UInt8,(repD l).length<=l.length
 |[]=>by simp[repD]
 |[a]=>by simp[repD]
 |a::b::r=>by
  rw[repD];have h1:=mP r;have c:=mP (b::r);simp only[qe]at c;split<;>simp only[qe]<;>omega
theorem mQ:∀l:List UInt8,hasD l=true->(repD l).length < l.length
 |[],h=>by simp[hasD]at h
 |[a],h=>by simp[hasD]at h
 |a::b::r,h=>by
  rw[repD];by_cases c:(a==32&&b==32)=true
  ·rw[if_pos c];have h1:=mP r;simp only[qe];omega
  ·rw[if_neg c];rw[hasD,qah]at h;have d:=mQ (b::r) (h.resolve_left c);simp only[qe]at d ⊢;omega
def spS:Nat->List UInt8->List UInt8
 |0,s=>s
 |f+1,s=>if hasD s then spS f (repD s)else s
theorem pC:∀(f:Nat) (s:List UInt8),s.length<=f->spS f s=spS s.length s
 |0,s,h=>by
  have:s.length=0:=by omega
  rw[this]
 |f+1,s,h=>by
  rw[spS];by_cases a:hasD s=true
  ·rw[if_pos a];have d:=mQ s a;rw[pC f (repD s) oo];obtain⟨m,b⟩:∃m,s.length=m+1:=⟨s.length - 1,by omega⟩
   rw[b,spS,if_pos a];by_cases c:m < f+1
   ·exact(pC m (repD s) oo).symm
   ·omega
  ·rw[if_neg a];cases e:s.length with
   |zero=>rfl
   |succ m=>rw[spS,if_neg a]
theorem B5{s:List UInt8}(a:hasD s=true):spS s.length s=spS (repD s).length (repD s):=by
 have c:=mQ s a;obtain⟨m,b⟩:∃m,s.length=m+1:=⟨s.length - 1,by omega⟩
 rw[b,spS,if_pos a,pC m (repD s) oo]
theorem ybz{s:List UInt8}(a:hasD s=false):spS s.length s=s:=by
 cases b:s.length with
 |zero=>rfl
 |succ m=>rw[spS,if_neg (by rw[a];simp)]
def MLF(F:Fz):Prop:=∃m,F 4=some (.cells 3 [.int .i64 m])
theorem MLF.mono{F b:Fz}(h:MLF F)(a:Fz.le F b):MLF b:=let⟨m,c⟩:=h;⟨m,a _ _ c⟩
def DFun:Prop:=∀(F:Fz) (s:List UInt8),MLF F->s.length<=70000->Fo prog F 248 [.va (.str s),.va (.str [32,32])] (fun o a=>F=a/\o=.ret (.va (.bool (hasD s))))
def AFun:Prop:=∀(F:Fz) (s:List UInt8),MLF F->s.length<=70000->Fo prog F 249 [.va (.str s),.va (.str [32,32]),.va (.str [32])] (fun o a=>F=a/\o=.ret (.va (.str (repD s))))
theorem Ds{α:Type}{L:List α}(h:L≠[]):∃a r,L=a::r:=by cases L with
 |nil=>exact absurd rfl h
 |cons a r=>exact⟨a,r,rfl⟩
theorem ydx{α:Type}{L:List α}(h:L≠[])(i:Nat)(x:α):L.set i x≠[]:=by
 cases L with
 |nil=>exact absurd rfl h
 |cons a r=>cases i<;>simp
theorem EI{a:List Ln}(e:famE caps l=famE caps a):subE (some (famE caps l)) ((famE caps a).ren μ):=by
 rw[e];exact dW
theorem Aa(U:DFun)(T:AFun)(F:Fz)(Q:MLF F)(L:List Ln)(i c:Nat)(caps:Nat->Nat)(t:List UInt8)(n:List Int)(a:Int)(h:L[i]? =some (t,n))(Y:t.length<=70000):
  Ct prog 189 [.va (.ptr ⟨1,0,i,2,0⟩),.va (.int .i64 a)] F [(1,bG 2 caps c L),(2,famE caps L)] 3
   (stepK F c caps (L.set i (spS t.length t,n))):=by
 have R:i < L.length:=(qg.1 h).1;rcases L with _ | ⟨a0,ar⟩
 ·exact absurd R ss
 have K:a0::ar≠[]:=by simp
 have W:∀s,famE caps ((a0::ar).set i (s,n))=famE caps (a0::ar):=fun s=>oO h
 have M:(a0::ar).set i (t,n)=a0::ar:=pz h;have o:∀s O,((a0::ar).set i (s,n)).set i (O,n)=(a0::ar).set i (O,n):=fun s O=>List.set_set ..
 have y:∀s,((a0::ar).set i (s,n))[i]? =some (s,n):=fun s=>by rw[qc8,if_pos rfl,if_pos R]
 refine ctS func189 ?_;conv=>whnf
 refine aH hΘ (X:={ x:List UInt8×Ln×List Ln // x.2.1::x.2.2=(a0::ar).set i (x.1,n)/\x.1.length<=t.length/\spS x.1.length x.1=spS t.length t }) (fun _=>[]) (jr 4 13 [])
  (fun x=>[(0,.frz F),(1,bG 2 caps c (x.1.2.1::x.1.2.2)),(2,famE caps (x.1.2.1::x.1.2.2))]) 3 (fun x=>x.1.1.length) ⟨(t,a0,ar),M.symm,qi _,rfl⟩
  (fun E G=>leI [] E G rfl ⟨tv,c8 oo _ _ _,c9 _ _ _,tv⟩ trivial ⟨Fz.r F,ee (fun k=>rfl),dW (μ:=sig []) (caps:=caps) (l:=a0::ar),tv⟩) ?_
 rintro⟨⟨s,m,p⟩,d,A,f⟩ E G;replace d:m::p=(a0::ar).set i (s,n):=d;replace A:s.length<=t.length:=A;replace f:spS s.length s=spS t.length t:=f;have h1:(m::p)[i]? =some (s,n):=by rw[d];exact y s
 have b:=gD 2 caps 0 (m::p) i _ h1;rw[q9]at b;have I:hasD s=true\/hasD s=false:=by cases hasD s<;>simp
 have e:∃q D,(a0::ar).set i (repD s,n)=q::D:=Ds (ydx K _ _);obtain⟨q,D,e⟩:=e;have j:(m::p).set i (repD s,n)=q::D:=by rw[d,o,e]
 have w:famE caps (m::p)=famE caps (q::D):=by rw[<-j,oO h1]
 refine⟨rfl,_,b,?_⟩;refine useFt (U F s Q oo) ?_;rintro _ _ Z ⟨rfl,rfl⟩;refine br (fun g=>?_) (fun g=>?_)
 ·have g:hasD s=true:=g;have J:=mQ s g;have B:=B5 g;refine⟨rfl,_,b,?_⟩;refine useFt (T F s Q oo) ?_;rintro _ _ l2 ⟨rfl,rfl⟩;refine⟨rfl,_,b,?_⟩
  refine⟨⟨(repD s,q,D),e.symm,by show(repD s).length<=t.length;omega,by show spS (repD s).length (repD s)=_;rw[<-B];exact f⟩,J,
   leR [] E G rfl ⟨tv,c8 oo _ _ _,c9 _ _ _,tv⟩ trivial ⟨Fz.r _,?_,EI w,tv⟩⟩
  have S:=vv (caps:=caps) (c:=c) (t':=repD s) (n:=n) (L:=m::p) (i:=i) ss rfl (μ:=sig []) (fun k=>rfl);rw[j]at S;exact S
 ·have g:hasD s=false:=g;have V:s=spS t.length t:=by rw[<-f];exact(ybz g).symm
  have u:m::p=(a0::ar).set i (spS t.length t,n):=by rw[d,<-V]
  refine clean [] (.ret (.tup [])) F [(1,bG 2 caps c ((a0::ar).set i (spS t.length t,n))),(2,famE caps ((a0::ar).set i (spS t.length t,n)))] 3 ⟨Fz.r F,rfl,rfl,rfl,rfl⟩ (aP _) rfl rfl (by simp[Out.below,SV.below]) ⟨c8 oo _ _ _,c9 _ _ _,tv⟩ ⟨Fz.r F,?_,?_,tv⟩
  ·exact tu (fun k=>rfl) u
  ·exact vf u
theorem iU{w:Int}(b:0<=w/\w<=1000000):IntKind.i64.wrap ((IntKind.i64.wrap (w+1)).tdiv 2)=(w+1) / 2/\(IntKind.i64.wrap (w+1)).tdiv 2=(w+1) / 2:=by
 have h1:IntKind.i64.wrap (w+1)=w+1:=aI oo oo;have a:(w+1).tdiv 2=(w+1) / 2:=jw oo;rw[h1,a];exact⟨aI oo oo,rfl⟩
theorem CZ(F:Fz)(w h:Int)(a:Int)(c:Nat)(caps:Nat->Nat)(g:0<=w/\w<=1000000)(e:0<=h/\h<=1000000):
  Ct prog 194 [.va (.ptr ⟨1,0,0,0,0⟩),.va (.int .i64 a)] F (valM ⟨false,[],w,h,[]⟩ c caps) 4 (stepV F ⟨false,[],(w+1) / 2,(h+1) / 2,[]⟩):=by
 have f:∀d b,d=(w+1) / 2->b=(h+1) / 2->subE (some (valE ⟨false,[],d,b,[]⟩ 2 c)) ((valE ⟨false,[],(w+1) / 2,(h+1) / 2,[]⟩ 2 c).ren (sig [])):=by
  intro d b i j;subst i;subst j;rfl
 refine ctS func194 ?_;refine dwS (lk [0,1,2,3,4,5,6,7,8,9,10,11,12,13] .done) [1] ?_;conv=>whnf
 repeat' ((conv=>whnf);first
  |refine⟨rfl,?_⟩
  |refine⟨Fz.r _,rfl,?_⟩
  |refine⟨Fz.r _,rfl,rfl,?_⟩
  |refine⟨⟨by simp,by simp⟩,?_⟩
  |fail)
 refine⟨oo,?_⟩;conv=>whnf
 repeat' ((conv=>whnf);first
  |refine⟨rfl,?_⟩
  |refine⟨Fz.r _,rfl,?_⟩
  |refine⟨Fz.r _,rfl,rfl,?_⟩
  |refine⟨⟨by simp,by simp⟩,?_⟩
  |fail)
 refine⟨oo,?_⟩;conv=>whnf
 refine brd ss ?_;refine clean [] (.ret (.tup [])) F (valM ⟨false,[],(w+1) / 2,(h+1) / 2,[]⟩ c caps) 4 ⟨Fz.r F,rfl,rfl,rfl,c,caps,rfl⟩ (aP _) rfl rfl (by simp[Out.below,SV.below]) (iL _ _ _) ⟨Fz.r F,?_,tv⟩
 first
 |exact f _ _ (iU g).1 (iU e).1
 |exact f _ _ (iU g).2 (iU e).2
end Go.Proofs.YtfnkamphhpldcaaGreatDoor
namespace Go.Proofs.YtfnkamphhpldcaaGreatDoor
open Go Sx Tryz
def halB(w:Nat):Nat->List UInt8->List UInt8->List UInt8
 |_,[],o=>o
 |k,b::r,o=>halB w (k+1) r (if b=49 then o.set (k / w / 2*((w+1) / 2)+k % w / 2) 49 else o)
theorem wS(w:Nat):∀(l:List UInt8) (k:Nat) (o:List UInt8),(halB w k l o).length=o.length
 |[],_,_=>rfl
 |b::r,k,o=>by
  rw[halB,wS w r];split
  ·exact qbm
  ·rfl
theorem Bc{k w h:Nat}(a:k < w*h):k / w / 2*((w+1) / 2)+k % w / 2 < (w+1) / 2*((h+1) / 2):=by
 have d:0 < w:=by
  rcases qbl w with h0 | h0
  ·rw[h0,Nat.zero_mul]at a;omega
  ·exact h0
 have h1:k / w < h:=qdu a;have e:k % w < w:=qba _ d;have b:k / w / 2+1<=(h+1) / 2:=by omega
 have f:k % w / 2 < (w+1) / 2:=by omega
 have c:(w+1) / 2*(k / w / 2+1)<=(w+1) / 2*((h+1) / 2):=qb3 _ b;rw[qd4,qcq]at c;rw[qar (k / w / 2)];omega
end Go.Proofs.YtfnkamphhpldcaaGreatDoor
namespace Go.Proofs.YtfnkamphhpldcaaGreatDoor
open Go Sx Tryz
set_option maxRecDepth 100000
def NFun:Prop:=∀(F:Fz) (n:Nat),n<=70000->Fo prog F 250 [.va (.str [48]),.va (.int .i64 n)] (fun o a=>F=a/\o=.ret (.va (.str (List.replicate n 48))))
theorem yc9{k w:Nat}(e:0 < w/\w<=64)(i:k < 4096):
  IntKind.i64.wrap (IntKind.i64.wrap (IntKind.i64.wrap ((IntKind.i64.wrap ((k:Int).tdiv w)).tdiv 2)*IntKind.i64.wrap ((IntKind.i64.wrap ((w:Int)+1)).tdiv 2))+IntKind.i64.wrap (((k:Int).tmod w).tdiv 2))=((k / w / 2*((w+1) / 2)+k % w / 2:Nat):Int):=by
 have h1:(k:Int).tdiv w=((k / w:Nat):Int):=by rw[jw oo];rfl
 have a:(k:Int).tmod w=((k % w:Nat):Int):=by rw[qaa oo];rfl
 have f:k / w<=k:=qb7 _ _;have g:k % w < w:=qba _ e.1;rw[h1,a];generalize k / w=q at*;generalize k % w=r at*;have b:(q:Int).tdiv 2=((q / 2:Nat):Int):=by rw[jw oo];rfl
 have c:(r:Int).tdiv 2=((r / 2:Nat):Int):=by rw[jw oo];rfl
 have d:((w:Int)+1).tdiv 2=(((w+1) / 2:Nat):Int):=by rw[jw oo];rfl
 have h:q / 2*((w+1) / 2)<=2048*32:=qaw oo oo
 rw[aI (n:=(q:Int)) oo oo,b,c,aI (n:=(w:Int)+1) oo oo,d,aI (n:=((q / 2:Nat):Int)) oo oo,aI (n:=(((w+1) / 2:Nat):Int)) oo oo,
  <-qb6]
 generalize q / 2*((w+1) / 2)=m at*;rw[aI (n:=(m:Int)) oo oo,aI (n:=((r / 2:Nat):Int)) oo oo,<-qcr,aI oo oo]
theorem CY(hN:NFun)(F:Fz)(w h:Nat)(e:UInt8)(d:List UInt8)(a:Int)(c:Nat)(caps:Nat->Nat)(hw:0 < w/\w<=64)(hh:0 < h/\h<=64)(hl:(e::d).length=w*h):
  Ct prog 194 [.va (.ptr ⟨1,0,0,0,0⟩),.va (.int .i64 a)] F (valM ⟨false,[],w,h,e::d⟩ c caps) 4
   (stepV F ⟨false,[],((w:Int)+1) / 2,((h:Int)+1) / 2,halB w 0 (e::d) (List.replicate ((w+1) / 2*((h+1) / 2)) 48)⟩):=by
 have A:=iU (w:=(w:Int)) ⟨by omega,by omega⟩;have B:=iU (w:=(h:Int)) ⟨by omega,by omega⟩;have ac:((w:Int)+1) / 2=(((w+1) / 2:Nat):Int):=by omega
 have ad:((h:Int)+1) / 2=(((h+1) / 2:Nat):Int):=by omega
 have G:(((w+1) / 2*((h+1) / 2):Nat):Int)=IntKind.i64.wrap (IntKind.i64.wrap ((IntKind.i64.wrap ((w:Int)+1)).tdiv 2)*IntKind.i64.wrap ((IntKind.i64.wrap ((h:Int)+1)).tdiv 2)):=by
  have L:(w+1) / 2*((h+1) / 2)<=32*32:=qaw oo oo;rw[A.1,B.1,ac,ad,<-qb6,aI oo oo]
 have hv:∀w' W S,w'=((w:Int)+1) / 2->W=((h:Int)+1) / 2->S=halB w 0 (e::d) (List.replicate ((w+1) / 2*((h+1) / 2)) 48)->subE (some (valE ⟨false,[],w',W,S⟩ 2 c)) ((valE ⟨false,[],((w:Int)+1) / 2,((h:Int)+1) / 2,halB w 0 (e::d) (List.replicate ((w+1) / 2*((h+1) / 2)) 48)⟩ 2 c).ren (sig [])):=by
  intro w' W S A B e3;subst A;subst B;subst e3;rfl
 have g:∀(o:List UInt8) (μ:Mu) (k:Nat),subE (some (.one (.arr 5 1 (o.map fun b=>[SA.int .u8 b.toNat]) k))) ((Ent.one (.arr 5 1 (o.map encB) k)).ren μ):=fun o μ k=>(cY (l:=o) aB rfl 5 1 μ k).symm
 refine ctS func194 ?_;refine dwS (lk [0,1,2,3,4,5,6,7,8,9,10,11,12,13] .done) [1] ?_;conv=>whnf
 repeat' ((conv=>whnf);first
  |refine⟨rfl,?_⟩
  |refine⟨Fz.r _,rfl,?_⟩
  |refine⟨Fz.r _,rfl,rfl,?_⟩
  |refine⟨⟨by simp,by simp⟩,?_⟩
  |fail)
 refine⟨oo,?_⟩;conv=>whnf
 repeat' ((conv=>whnf);first
  |refine⟨rfl,?_⟩
  |refine⟨Fz.r _,rfl,?_⟩
  |refine⟨Fz.r _,rfl,rfl,?_⟩
  |refine⟨⟨by simp,by simp⟩,?_⟩
  |fail)
 refine⟨oo,?_⟩;conv=>whnf
 refine bre ss ?_;conv=>whnf
 have L:(w+1) / 2*((h+1) / 2)<=32*32:=qaw oo oo;refine useFo (hN F ((w+1) / 2*((h+1) / 2)) oo) rfl ⟨rfl,congrArg (SA.int .i64) G,tv⟩ rfl ?_;rintro _ _ l1 ⟨rfl,rfl⟩;conv=>whnf
 intro y ag;conv=>whnf
 intro c2 ah;conv=>whnf
 have R:(List.replicate ((w+1) / 2*((h+1) / 2)) (48:UInt8)).length=(w+1) / 2*((h+1) / 2):=y5
 refine aH hΘ (X:={ x:Nat×List UInt8 // x.1<=d.length+1/\x.2.length=(w+1) / 2*((h+1) / 2)/\halB w x.1 ((e::d).drop x.1) x.2=halB w 0 (e::d) (List.replicate ((w+1) / 2*((h+1) / 2)) 48) }) (fun x=>[(37,.va (.int .i64 x.1.1))]) (7::8::jr 38 26 [])
  (fun x=>[(0,.frz F),(4,.one (.arr 5 1 (x.1.2.map encB) y))]) 6 (fun x=>d.length+1 - x.1.1) ⟨(0,_),by simp,R,rfl⟩
  (fun O Q=>leI [] O Q rfl ⟨tv,cF aB 5 1 6 y _,tv⟩ ⟨rfl,tv⟩ ⟨Fz.r F,g _ _ _,tv⟩) ?_
 rintro⟨⟨k,o⟩,hk,f,m⟩ O Q;replace hk:k<=d.length+1:=hk;replace f:o.length=(w+1) / 2*((h+1) / 2):=f;replace m:halB w k ((e::d).drop k) o=halB w 0 (e::d) (List.replicate ((w+1) / 2*((h+1) / 2)) 48):=m;refine br (fun D=>?_) (fun D=>?_)
 ·have U:k < d.length+1:=by
   have E:(k:Int) < ((d.length+1:Nat):Int):=od D;omega
  clear D;have V:k < (e::d).length:=U
  have q:((e::d).map fun b=>[SA.int .u8 b.toNat])[0+(k:Int).toNat]? =some [SA.int .u8 ((e::d)[k]).toNat]:=by
   rw[q9,qn,qt,qc V];rfl
  refine⟨rfl,⟨by simp,by show(k:Int) < ((d.length+1:Nat):Int);omega⟩,_,q,?_⟩;have ai:w*h<=64*64:=qaw hw.2 hh.2;have ab:k < w*h:=by rw[<-hl];exact V
  have i:=m;rw[jj V,halB]at i;refine br (fun T=>?_) (fun T=>?_)
  ·have p:(e::d)[k]=49:=by
    have E:(((e::d)[k]).toNat:Int)=49:=od T;exact qdp.1 (by show((e::d)[k]).toNat=49;omega)
   have M:=i;rw[if_pos p]at M;refine dwS (lk [0,1,2,3,4,5,6,7,8,9,10,11,12,13,14,15,16,17,18] (.last 19 .done)) [1] ?_;conv=>whnf
   have af:(w:Int)≠0:=by omega
   have Y:(2:Int)≠0:=by decide
   have j:=yc9 (k:=k) hw oo;have J:=Bc ab;have Z:0<=IntKind.i64.wrap (IntKind.i64.wrap (IntKind.i64.wrap ((IntKind.i64.wrap ((k:Int).tdiv w)).tdiv 2)*IntKind.i64.wrap ((IntKind.i64.wrap ((w:Int)+1)).tdiv 2))+IntKind.i64.wrap (((k:Int).tmod w).tdiv 2)):=by rw[j];omega
   have aa:IntKind.i64.wrap (IntKind.i64.wrap (IntKind.i64.wrap ((IntKind.i64.wrap ((k:Int).tdiv w)).tdiv 2)*IntKind.i64.wrap ((IntKind.i64.wrap ((w:Int)+1)).tdiv 2))+IntKind.i64.wrap (((k:Int).tmod w).tdiv 2)) < ((List.replicate ((w+1) / 2*((h+1) / 2)) (48:UInt8)).length:Int):=by rw[j,R];omega
   have I:(o.map encB)[0+(IntKind.i64.wrap (IntKind.i64.wrap (IntKind.i64.wrap ((IntKind.i64.wrap ((k:Int).tdiv w)).tdiv 2)*IntKind.i64.wrap ((IntKind.i64.wrap ((w:Int)+1)).tdiv 2))+IntKind.i64.wrap (((k:Int).tmod w).tdiv 2))).toNat]? =some (encB (o[k / w / 2*((w+1) / 2)+k % w / 2]'(by rw[f];exact J))):=by
    rw[j,qn,q9,qt,qc (by rw[f];exact J)];rfl
   have s:subE (some (.one (.arr 5 1 ((o.map encB).set (0+(IntKind.i64.wrap (IntKind.i64.wrap (IntKind.i64.wrap ((IntKind.i64.wrap ((k:Int).tdiv w)).tdiv 2)*IntKind.i64.wrap ((IntKind.i64.wrap ((w:Int)+1)).tdiv 2))+IntKind.i64.wrap (((k:Int).tmod w).tdiv 2))).toNat) [.int .u8 49]) y))) ((Ent.one (.arr 5 1 ((o.set (k / w / 2*((w+1) / 2)+k % w / 2) 49).map encB) y)).ren (sig [])):=by
    have ae:(o.map encB).set (k / w / 2*((w+1) / 2)+k % w / 2) [SA.int .u8 49]=(o.set (k / w / 2*((w+1) / 2)+k % w / 2) 49).map encB:=by rw[qbw];rfl
    rw[j,qn,q9,ae];exact g _ _ _
   repeat' ((conv=>whnf);first
    |refine⟨af,?_⟩
    |refine⟨Y,?_⟩
    |refine⟨⟨Z,aa⟩,?_⟩
    |refine⟨_,I,?_⟩
    |refine⟨rfl,?_⟩
    |refine⟨Fz.r _,rfl,?_⟩
    |refine⟨Fz.r _,rfl,rfl,?_⟩
    |refine⟨⟨by simp,by simp⟩,?_⟩
    |fail)
   exact⟨⟨(k+1,o.set (k / w / 2*((w+1) / 2)+k % w / 2) 49),by show k+1<=d.length+1;omega,by rw[qbm];exact f,M⟩,by show d.length+1 - (k+1) < d.length+1 - k;omega,
    leR [] O Q rfl ⟨tv,cF aB 5 1 6 y _,tv⟩ ⟨cnt oo,tv⟩ ⟨Fz.r _,s,tv⟩⟩
  ·have p:¬(e::d)[k]=49:=fun h=>by
    have E:¬(((e::d)[k]).toNat:Int)=49:=oe T;rw[h]at E;exact E rfl
   rw[if_neg p]at i
   exact⟨⟨(k+1,o),by show k+1<=d.length+1;omega,f,i⟩,by show d.length+1 - (k+1) < d.length+1 - k;omega,
    leR [] O Q rfl ⟨tv,cF aB 5 1 6 y _,tv⟩ ⟨cnt oo,tv⟩ ⟨Fz.r _,g _ _ _,tv⟩⟩
 ·have U:k=d.length+1:=by
   have E:¬(k:Int) < ((d.length+1:Nat):Int):=oe D;omega
  clear D
  have n:o=halB w 0 (e::d) (List.replicate ((w+1) / 2*((h+1) / 2)) 48):=by
   rw[<-m,qbj (by rw[U];simp),halB]
  have K:0+(List.replicate ((w+1) / 2*((h+1) / 2)) (48:UInt8)).length<=(o.map encB).length:=by rw[R,qa,f];omega
  have u:List.take (List.replicate ((w+1) / 2*((h+1) / 2)) (48:UInt8)).length (List.drop 0 (o.map encB))=o.map encB:=by rw[R,y8];exact ql (by rw[qa,f];omega)
  refine⟨K,_,u,o,rfl,?_⟩;refine clean [] (.ret (.tup [])) F (valM ⟨false,[],((w:Int)+1) / 2,((h:Int)+1) / 2,halB w 0 (e::d) (List.replicate ((w+1) / 2*((h+1) / 2)) 48)⟩ c caps) 4 ⟨Fz.r F,rfl,rfl,rfl,c,caps,rfl⟩ (aP _) rfl rfl (by simp[Out.below,SV.below]) (iL _ _ _) ⟨Fz.r F,?_,tv⟩
  first
  |exact hv _ _ _ A.1 B.1 n
  |exact hv _ _ _ A.2 B.2 n
end Go.Proofs.YtfnkamphhpldcaaGreatDoor
namespace Go.Proofs.YtfnkamphhpldcaaGreatDoor
open Go Go.RowKit Go.Shelf Sx Tryz
attribute [local go_sem] Oper.semAt_some
abbrev G7:={ x:Nat×Bool // x.1 < 128 }
def grpL(z:Nat):List (Nat×Bool):=if z < 128 then [(z,true)]else(z % 128,false)::grpL (z / 128)
termination_by z
decreasing_by omega
noncomputable def zAt(a:Nat)(w:World):Nat:=match w.cell? ⟨a,0,none⟩with
 |some (.int _ z)=>z.toNat
 |_=>0
theorem sI{a:Nat}{w:World}{z:Nat}(h:Boxed w a 219 (.int .u64 z)):zAt a w=z:=by
 unfold zAt;rw[h.cell];rfl
set_option maxRecDepth 100000 in
theorem it147(F:Fence)(n:Nat)(h147:F.fn 212)(hro:F.round=none)(hn:1<=n)(l zb:Nat)(z:Nat)(hz:z < 18446744073709551616)(J:List G7->World->Prop)
  (hJz:∀pre A v,J pre A->J pre (A.setCell ⟨zb,0,none⟩ v))
  (hY:∀pre (x:G7) W1,J pre W1->pre.length < 10->YieldAt F (n - 1) prog l #[.int .u8 x.1.1,.bool x.1.2] W1 fun e W'=>e=.returned (.bool true)/\J (pre++[x]) W'/\W'.heap[zb]? =W1.heap[zb]?)
  (W:World)(hc:Boxed W zb 219 (.int .u64 z))(h0:J [] W):
  CallsIn F n prog 212 #[.func (.yield l) #[] #[],.pointer (some ⟨zb,0,none⟩)] W fun e W'=>(∃v,e=.returned v)/\∃xs,(xs.map (·.1)=grpL z)/\J xs W':=by
 refine callsIn_of_wp func212 rfl h147 ?_ hro;simp only[Tryz.ntmps212,List.size_toArray,List.length_cons,List.length_nil,Nat.reduceAdd,Nat.reduceSub,Array.replicate_succ,Array.replicate_zero,List.push_toArray,List.append_toArray,List.nil_append,List.cons_append]
 gi_wp2
 gi_loopw [] (fun wr=>∃(pre:List G7) (z':Nat),J pre wr/\Boxed wr zb 219 (.int .u64 z')/\z' < 18446744073709551616/\grpL z=pre.map (·.1)++grpL z'/\z'*128^pre.length<=z/\(pre=[]\/1<=z')) (fun wr=>zAt zb wr)
 case atStart=>
  exact⟨[],z,h0,hc,hz,by simp,by simp,.inl rfl⟩
 case round=>
  obtain⟨pre,z',hJ,hb,hz',hg,hpow,hpos⟩:=hrel;have hcell:=hb.cell
  have hlen:pre.length < 10:=by
   rcases hpos with rfl | hpos
   ·simp
   ·refine Nat.lt_of_not_le fun hge=>?_
    have h1:128^10<=128^pre.length:=Nat.pow_le_pow_right oo hge;have h2:1*128^pre.length<=z'*128^pre.length:=Nat.mul_le_mul_right _ hpos;omega
  obtain⟨fn,tmps,assign,body,hy,hR⟩:=hY pre ⟨(z' % 128,decide (z' < 128)),Nat.mod_lt _ oo⟩ wr hJ hlen
  have hbits:bits BinOp.and IntKind.u64 (↑z') 127 % 256=((z' % 128:Nat):Int):=by
   rw[show(127:Int)=((127:Nat):Int)from rfl,u64_and_nat z' 127 hz' oo,show(127:Nat)=2^7 - 1 from rfl,Nat.and_two_pow_sub_one_eq_mod];omega
  have hdec:decide ((z':Int) < 128)=decide (z' < 128):=decide_eq_decide.2 oo;have hnn:((z' % 128:Nat):Int)=(z':Int) % 128:=by omega
  dsimp only at hy;rw[hnn]at hy
  gi_wp2
  refine hR.mono ?_;rintro e W3 ⟨rfl,hJ3,hz3⟩;have hb3:Boxed W3 zb 219 (.int .u64 z'):=hz3.trans hb;have hcell3:=hb3.cell;have hfr3:=hb3.frozen;by_cases hlt:z' < 128
  ·have hg1:grpL z'=[(z',true)]:=by rw[grpL,if_pos hlt]
   have e1:z' % 128=z':=Nat.mod_eq_of_lt hlt
   gi_wp2
   refine bodyPost_ret (results_none rfl _ _ _) rfl ?_;refine⟨⟨_,rfl⟩,_,?_,hJ3⟩;rw[hg,hg1,List.map_append];simp[e1,hlt]
  ·have hg1:grpL z'=(z' % 128,false)::grpL (z' / 128):=by rw[grpL,if_neg hlt]
   have hdiv:((z' / 128:Nat):Int)=(z':Int) / 128:=by omega
   have hb4:=hb3.set (.int .u64 ((z' / 128:Nat):Int));rw[hdiv]at hb4
   have hpw:z' / 128*128^(pre.length+1)<=z:=by
    rw[Nat.pow_succ,Nat.mul_comm (128^pre.length),<-Nat.mul_assoc];exact Nat.le_trans (Nat.mul_le_mul_right _ (Nat.div_mul_le_self z' 128)) hpow
   gi_wp2
   refine⟨⟨_,z' / 128,hJz _ _ _ hJ3,by rw[hdiv];exact hb4,by omega,?_,by simpa using hpw,.inr oo⟩,?_⟩
   ·rw[hg,hg1,List.map_append];simp[hlt]
   ·rw[sI (z:=z' / 128) (by rw[hdiv];exact hb4),sI hb];omega
theorem yW(F:Fence)(n:Nat)(h:F.fn 139)(hro:F.round=none)(z:Int)(w:World):
  CallsIn F n prog 139 #[.int .u64 z] w fun e w'=>e=.returned (.func (.func 212) #[] #[.pointer (some ⟨w.heap.size,0,none⟩)])/\w'=w.alloc (.cells #[.int .u64 z] 219):=by
 refine callsIn_of_wp func139 rfl h ?_ hro;simp only[Tryz.ntmps139,List.size_toArray,List.length_cons,List.length_nil,Nat.reduceAdd,Nat.reduceSub,Array.replicate_succ,Array.replicate_zero,List.push_toArray,List.append_toArray,List.nil_append,List.cons_append]
 gi_wp2
 go_ret
 exact⟨rfl,rfl⟩
theorem ydw(F:Fence)(n:Nat)(a:F.fn 212)(d:F.round=none)(i:1<=n)(b z:Nat)(j:z < 18446744073709551616)(w:World)(h:Boxed w b 219 (.int .u64 z)):
  SeqZ F n prog 212 #[.pointer (some ⟨b,0,none⟩)] (fun x:G7=>#[.int .u8 x.1.1,.bool x.1.2]) b (fun xs=>xs.map (·.1)=grpL z) 10 w:=
 fun l J W f c g e=>it147 F n a d i l b z j J c g W (f.trans h) e
end Go.Proofs.YtfnkamphhpldcaaGreatDoor
namespace Go.Proofs.YtfnkamphhpldcaaGreatDoor
open Go Go.RowKit Go.Shelf Sx Tryz
attribute [local go_sem] Oper.semAt_some
theorem info5:(prog.info? 5).map (fun i=>(i.zero,i.size,i.bytes))=some (some (.int .u8 0),1,1):=by kernel_rfl
def byteOf(x:Nat×Bool):Nat:=if x.2 then x.1 else x.1+128
theorem ED(x:G7):byteOf x.1 < 256:=by
 have:=x.2;unfold byteOf;split<;>omega
theorem qX(z:Nat):(grpL z).map (fun x=>UInt8.ofNat (byteOf x))=putZ z:=by
 rw[grpL,putZ];split
 ·rfl
 ·rw[qw,qX (z / 128)];rfl
termination_by z
decreasing_by omega
theorem yd7(n:Int)(h:-4611686018427387903<=n/\n<=4611686018427387903):bits BinOp.xor IntKind.u64 (IntKind.u64.wrap (IntKind.u64.wrap n*2)) (IntKind.u64.wrap (n / 9223372036854775808))=(cO n:Int):=by
 by_cases g:n < 0
 ·have a:IntKind.u64.wrap n=n+18446744073709551616:=by rw[IntKind.wrap_u64];omega
  have b:IntKind.u64.wrap ((n+18446744073709551616)*2)=((n*2+18446744073709551616).toNat:Int):=by rw[IntKind.wrap_u64];omega
  have c:n / 9223372036854775808= -1:=by omega
  have d:IntKind.u64.wrap (-1)=((18446744073709551615:Nat):Int):=by decide
  rw[a,b,c,d,u64_xor_nat _ _ oo oo,cO,if_pos g]
  have f:∀x:Nat,x < 18446744073709551616->x^^^18446744073709551615=18446744073709551615 - x:=by
   intro x i
   have e:(BitVec.ofNat 64 x^^^BitVec.allOnes 64).toNat=18446744073709551615 - x:=by
    rw[BitVec.xor_allOnes,BitVec.toNat_not,BitVec.toNat_ofNat,ju oo]
   rw[BitVec.toNat_xor,BitVec.toNat_ofNat,ju oo]at e;exact e
  rw[f _ oo];omega
 ·have a:IntKind.u64.wrap n=n:=by rw[IntKind.wrap_u64];omega
  have b:IntKind.u64.wrap (n*2)=((n*2).toNat:Int):=by rw[IntKind.wrap_u64];omega
  have c:n / 9223372036854775808=0:=by omega
  have d:IntKind.u64.wrap 0=((0:Nat):Int):=by decide
  rw[a,b,c,d,u64_xor_nat _ _ oo oo,Nat.xor_zero,cO,if_neg g]
theorem DS(B:Nat)(t:TypeId):Own (fun(_:List G7) W=>∃u,Boxed W B t u):=fun s W g f ⟨u,h⟩ c d=>⟨u,h.kept c (fun e=>by
 obtain⟨o,a,b⟩:=d _ e.symm;rw[show W.heap[B]? =_ from h]at a;cases a;cases b)⟩
set_option maxRecDepth 100000 in
theorem zJ(F:Fence)(k:Nat)(h80:F.fn 78)(h112:F.fn 139)(h147:F.fn 212)(hro:F.round=none)(hk:3<=k)(n:Int)(hn:-4611686018427387903<=n/\n<=4611686018427387903)(w:World):
  CallsIn F k prog 78 #[.int .i64 n] w fun e w'=>e=.returned (.tuple #[.string ⟨(putI n).toArray⟩,.int .i64 0])/\Below w.heap.size w w':=by
 have h1:1<=k:=by omega
 have hz:=nJ n hn;have hx:=yd7 n hn;obtain⟨i0,hi,hz0,hz1,hz2⟩:=info_parts info5;have hn1:¬n < -4611686018427387903:=by omega
 have hn2:¬4611686018427387903 < n:=by omega
 refine callsIn_of_wp_marks func78 rfl h80 ?_ hro;simp only[Tryz.ntmps78,y9,qe,qu,Nat.reduceAdd,Nat.reduceSub,qac,qad,qal,qae,qv,yd]
 gi_wp2_with (gi_at_call 139;refine(yW F (k - 1) h112 hro _ _).mono ?_;rintro e w' ⟨rfl,rfl⟩)
 have bO:=Boxed.new w 81 (.slice none 0 0);have bN:=Boxed.new (w.alloc (.cells #[.slice none 0 0] 81)) 219 (.int .u64 (cO n));rw[World.size_alloc]at bN;have hB0:Below w.heap.size w ((w.alloc (.cells #[.slice none 0 0] 81)).alloc (.cells #[.int .u64 (cO n)] 219)):=((Below.refl _ w).alloc (qi _) _).alloc ss _
 refine CF hro h1 (gf:=212) (lb:=#[.pointer (some ⟨w.heap.size+1,0,none⟩)]) rfl h147 (enters_of func212 (by kernel_rfl) rfl)
  (ydw F (k - 1) h147 hro oo (w.heap.size+1) (cO n) oo _ bN) ss (fun _=>rfl)
  (fun pre W=>((∃v,Boxed W w.heap.size 81 v/\W.ownsRow w.heap.size 5 1 v pre.length (pre.map fun x=>.int .u8 (byteOf x.1))/\True)/\(∃u,Boxed W (w.heap.size+1) 219 u))/\Below w.heap.size w W)
  (OwnFrom.and (OwnFrom.and (Own.from (holdsRow_own w.heap.size w.heap.size 81 5 1 (fun pre=>pre.length) (fun pre:List G7=>pre.map fun x=>.int .u8 (byteOf x.1)) (fun _ _=>True)) _) (Own.from (DS _ _) _)) (ownFrom_below (qi _) (by simp;omega)))
  ?hIz ⟨⟨⟨_,bO.alloc _,World.ownsRow_nil _ _ _ _,tv⟩,⟨_,bN⟩⟩,hB0⟩
  (fun x=>{ tmps:=#[.int .i64 n,undef,.string ⟨#[]⟩,.int .i64 0,.pointer (some ⟨w.heap.size,0,none⟩),.int .u8 x.1.1,.bool x.1.2,.int .i64 n,.bool false,.bool false,.int .i64 n,.bool false,.bool false,.int .i64 n,.int .u64 (IntKind.u64.wrap n),.int .u64 (IntKind.u64.wrap (IntKind.u64.wrap n*2)),.int .i64 n,.int .i64 (n / 9223372036854775808),.int .u64 (IntKind.u64.wrap (n / 9223372036854775808)),.int .u64 (cO n),.func (.func 212) #[] #[.pointer (some ⟨w.heap.size+1,0,none⟩)],.int .u8 x.1.1,.bool x.1.2,undef,undef,undef,undef,undef,undef,undef,undef,undef,undef],defers:=[] }) ?assign ?body ?done
 case hIz=>
  rintro pre A v ⟨⟨⟨u,hv,hrow,-⟩,⟨q,hq⟩⟩,hB⟩;exact⟨⟨⟨u,hv.kept (grownBy_setCell' A (w.heap.size+1) v) ss,hrow.kept (grownBy_setCell' A (w.heap.size+1) v) (.inr (hq.not_row dd hrow).symm),tv⟩,⟨v,hq.set v⟩⟩,hB.setCell (p:=⟨w.heap.size+1,0,none⟩) ss v⟩
 case assign=>
  intro l x W K hK
  gi_wp2
  exact hK
 case body=>
  rintro l pre x W ⟨⟨⟨v,hv,hrow,-⟩,⟨q,hq⟩⟩,hB⟩ hlt;have hc:=hv.cell;obtain⟨⟨g,b⟩,hg⟩:=x;have hg':g < 128:=hg
  have hor:bits .or .u8 (g:Int) 128=((g+128:Nat):Int):=by
   rw[show(128:Int)=((128:Nat):Int)from rfl,u8_or_nat g 128 oo oo,Nat.or_comm];have:=qbq (i:=7) (b:=g) oo 1;simp only[Nat.reducePow,qcq]at this;rw[<-this,qcw]
  cases b with
  |true=>
   gi_wp2_with (gi_at_builtin;refine wpListIn_append_own _ rfl _ _ 81 rfl w.heap.size 5 i0 (.int .u8 0) 1 1 underlying81 hi hz0 hz1 hz2 rfl dd _ _ _ rfl (hrow.alloc _) ⟨W.heap.size,0,none⟩ 1 1 [.int .u8 g] rfl rfl (cell_one_new _ _ _) (by simp[Value.oneCell']) (by simp[maxLen];omega) oo (by have:=hB.size;simp;omega) ?_;intro v' w1 hown' hgrow _;obtain⟨g',cap',rfl⟩:=ownsRow_succ hown';obtain⟨hv1,hv2,hr2,hk2,hb2⟩:=hv.appended dd hrow hB.size (qi _) hown' hgrow;have hc1:=hv1.cell;have hf1:=hv1.frozen)
   have e1:=(Below.heap_setCell w1 ⟨w.heap.size,0,none⟩ (.slice (some ⟨g',0,none⟩) (pre.length+1) cap') (w.heap.size+1) ss).trans ((hq.alloc _).kept hgrow (hq.not_row dd hrow));exact⟨hk2.from _,e1.trans hq.symm,⟨⟨_,hv2,by simpa[byteOf]using hr2,tv⟩,⟨q,e1⟩⟩,hB.trans hb2⟩
  |false=>
   gi_wp2_with (gi_at_builtin;refine wpListIn_append_own _ rfl _ _ 81 rfl w.heap.size 5 i0 (.int .u8 0) 1 1 underlying81 hi hz0 hz1 hz2 rfl dd _ _ _ rfl (hrow.alloc _) ⟨W.heap.size,0,none⟩ 1 1 [.int .u8 ((g+128:Nat):Int)] rfl rfl (cell_one_new _ _ _) (by simp[Value.oneCell']) (by simp[maxLen];omega) oo (by have:=hB.size;simp;omega) ?_;intro v' w1 hown' hgrow _;obtain⟨g',cap',rfl⟩:=ownsRow_succ hown';obtain⟨hv1,hv2,hr2,hk2,hb2⟩:=hv.appended dd hrow hB.size (qi _) hown' hgrow;have hc1:=hv1.cell;have hf1:=hv1.frozen)
   have e1:=(Below.heap_setCell w1 ⟨w.heap.size,0,none⟩ (.slice (some ⟨g',0,none⟩) (pre.length+1) cap') (w.heap.size+1) ss).trans ((hq.alloc _).kept hgrow (hq.not_row dd hrow));exact⟨hk2.from _,e1.trans hq.symm,⟨⟨_,hv2,by simpa[byteOf]using hr2,tv⟩,⟨q,e1⟩⟩,hB.trans hb2⟩
 case done=>
  rintro D ys W hD hS ⟨⟨⟨v,hv,hrow,-⟩,⟨q,hq⟩⟩,hB⟩ hK;have hc:=hv.cell
  have hgl:ys.map (fun x=>UInt8.ofNat (byteOf x.1))=putI n:=by
   rw[putI,<-qX,<-hS,jq];rfl
  have hlen:ys.length=(grpL (cO n)).length:=by rw[<-hS,qa]
  obtain⟨m,hm⟩:∃m,ys.length=m+1:=by
   rw[hlen,grpL];split<;>exact⟨_,rfl⟩
  rw[hm]at hrow;obtain⟨g,cap,rfl⟩:=ownsRow_succ hrow
  have hcv:=run_convert_bytes_back (P:=prog) W 81 9 5 ⟨g,0,none⟩ cap (putI n) underlying81 underlying5 underlying9 (fun j hj=>by
   refine hrow.cells rfl j _ ?_;have hgj:=congrArg (fun l=>l[j]?) hgl;simp only[qt]at hgj;have hj':j < ys.length:=by have:=congrArg List.length hgl;rw[qa]at this;omega
   have hb:=ED ys[j];rw[qc hj',qc hj,qdo,Option.some.injEq]at hgj;rw[qt,qc hj',qdo,<-hgj,qay,ju oo])
  have hpl:(putI n).length=m+1:=by rw[<-hgl,qa,hm]
  rw[hpl]at hcv
  gi_wp2
  refine⟨by simp,.inl ⟨_,_,rfl,run_takeDeferred hK,?_⟩⟩;exact⟨_,results_tmp2 rfl _ _ _,rfl,hB.trans (belowK_b (w:=w) (qi _) W D _ _ (by simp at hD;omega) hK rfl rfl)⟩
set_option maxRecDepth 100000 in
theorem DI(n:Int)(hn:n < -4611686018427387903\/4611686018427387903 < n)(w:World):
  Calls prog 78 #[.int .i64 n] w fun e w'=>e=.returned (.tuple #[.string ⟨#[]⟩,.int .i64 10])/\Below w.heap.size w w':=by
 go_enter func78,Tryz.ntmps78
 by_cases g:n < -4611686018427387903
 ·go_wp2
  refine bodyPost_ret (results_tmp2 rfl _ _ _) rfl ⟨rfl,Below.refl _ _⟩
 ·have g2:4611686018427387903 < n:=hn.resolve_left g
  go_wp2
  refine bodyPost_ret (results_tmp2 rfl _ _ _) rfl ⟨rfl,Below.refl _ _⟩
theorem pfun:PFun:=by
 intro F n;have a:Sx.Enters prog 78:=Sx.enters_of func78 rfl dd
 have c:∀w:World,Calls prog 78 #[.int .i64 n] w fun e g=>e=.returned (.tuple #[.string ⟨(putIR n).1.toArray⟩,.int .i64 (putIR n).2])/\Below w.heap.size w g:=by
  intro w;by_cases b:n < -4611686018427387903\/4611686018427387903 < n
  ·rw[putIR,if_pos b];exact DI n b w
  ·rw[putIR,if_neg b];exact callsIn_wide.1 (zJ Fence.wide 3 trivial trivial trivial rfl oo n oo w)
 have f:=fR (F:=F) (args:=[.va (.int .i64 n)]) (out:=.ret (.tup [.va (.str (putIR n).1),.va (.int .i64 (putIR n).2)])) (vs:=[.int .i64 n]) a rfl (by
   rintro ρ d h
   match d,h with
   |[v],h=>rw[h.1];rfl) (.returned (.tuple #[.string ⟨(putIR n).1.toArray⟩,.int .i64 (putIR n).2])) (fun ρ=>⟨_,rfl,rfl⟩) (fun C ρ w _=>c w)
 exact f
