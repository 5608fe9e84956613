import Derived.Test.YtfnkamphhpldcaaGreatDoorK25
import Derived.Test.YtfnkamphhpldcaaGreatDoorK22
import Derived.Test.YtfnkamphhpldcaaGreatDoorK10
set_option maxHeartbeats 64000000
namespace Go.Proofs.YtfnkamphhpldcaaGreatDoor
open Go Sx Tryz
variable {p:Int}{v:Val}
theorem ko(h:VOK p v)(a:v.lost=true):v=loseV:=by
 grind[loseV,VOK]
theorem jS(a b:List Stp)(v:Val):runS (a++b) v=runS b (runS a v):=qas
theorem mu:∀l:List Stp,runS l loseV=loseV
 |[]=>rfl
 |s::r=>by
  show runS r (if loseV.lost=true then loseV else stepS s loseV)=loseV;rw[if_pos (show loseV.lost=true from rfl)];exact mu r
theorem yeo(s:Stp)(h:v.lost=false):runS [s] v=stepS s v:=by
 grind[runS]
theorem qG(a:VOK p v)(n:Int):runS [(6,n)] v=loseV:=by
 by_cases h:v.lost=true
 ·grind[ko,mu]
 ·rw[yeo _ (by grind)];rfl
def nfs(p:Int):List (List Stp):=
 [(6,0)]::if p=1 then [[],[(1,0)],[(2,0)],[(1,0),(2,0)]]
 else if p=2 then [[],[(4,0)],[(4,1)],[(4,2)],[(4,3)],[(4,4)],[(4,5)],[(4,6)]]
 else if p=3\/p=5 then [[],[(3,10)],[(3,100)],[(3,1000)]]
 else if p=6\/p=7 then [[],[(5,0)],[(5,0),(5,0)],[(5,0),(5,0),(5,0)],[(5,0),(5,0),(5,0),(5,0)],[(5,0),(5,0),(5,0),(5,0),(5,0)]]
 else [[]]
def sts(p:Int):List Stp:=
 (6,0)::if p=1 then [(1,0),(2,0)]else if p=2 then [(4,0),(4,1),(4,2),(4,3),(4,4),(4,5),(4,6)]else if p=3\/p=5 then [(3,10),(3,100),(3,1000)]else if p=6\/p=7 then [(5,0)]else []
theorem p8(a:1<=p/\p<=8):p=1\/p=2\/p=3\/p=4\/p=5\/p=6\/p=7\/p=8:=by omega
theorem rN{s:Stp}(a:1<=p/\p<=8)(h:aS p s=true):s∈sts p:=by
 obtain⟨k,n⟩:=s;rcases dE a h with⟨rfl,rfl,rfl⟩ | ⟨rfl,rfl,rfl⟩ | ⟨rfl,rfl | rfl,rfl | rfl | rfl⟩ | ⟨rfl,rfl,b⟩ | ⟨rfl,rfl | rfl,rfl⟩ | ⟨rfl,rfl⟩
 case inr.inr.inr.inl=>
  have:n=0\/n=1\/n=2\/n=3\/n=4\/n=5\/n=6:=by omega
  simp_all[sts,aS]
 case inr.inr.inr.inr.inr=>simp[sts]
 all_goals decide
theorem CH(a:1<=p/\p<=8):∀m∈nfs p,∀s∈sts p,normS (m++[s])∈nfs p:=by
 rcases p8 a with rfl | rfl | rfl | rfl | rfl | rfl | rfl | rfl<;>decide+kernel
theorem v2(l:List Stp):normS (normS l)=normS l:=by
 have h:=pc l [];rw[show normS []=[]from rfl,qx,qx]at h;omega
theorem v6(l:List Stp)(s:Stp):normS (normS l++[s])=normS (l++[s]):=by
 have h1:=pc l [s]
 grind[pc,v2,normS]
theorem yI{α:Type}{P:List α->Prop}(a:P [])(h1:∀l x,P l->P (l++[x]))(l:List α):P l:=by
 have:∀n,n<=l.length->P (l.take n):=by
  intro n
  induction n with
  |zero=>intro _;exact a
  |succ n ih=>
   intro h;rw[qe oo];exact h1 _ _ (ih oo)
 grind[List.take_length]
theorem pu(a:1<=p/\p<=8)(l:List Stp):(∀s∈l,aS p s=true)->normS l∈nfs p:=by
 refine yI (P:=fun l=>(∀s∈l,aS p s=true)->normS l∈nfs p) ?_ ?_ l
 ·intro _;rcases p8 a with rfl | rfl | rfl | rfl | rfl | rfl | rfl | rfl<;>decide+kernel
 ·intro l x ih h;rw[<-v6]
  grind[CH,List.mem_append_left,rN]
theorem ygo(a:1<=p/\p<=8):∀m∈nfs p,∀x∈m,aS p x=true:=by
 rcases p8 a with rfl | rfl | rfl | rfl | rfl | rfl | rfl | rfl<;>decide+kernel
theorem ydt:∀b:UInt8,Lib.lowerB (Lib.lowerB b)=Lib.lowerB b:=by
 intro b;have:∀n:Fin 256,Lib.lowerB (Lib.lowerB (UInt8.ofNat n.1))=Lib.lowerB (UInt8.ofNat n.1):=by decide+kernel
 have h:=this ⟨b.toNat,b.toNat_lt⟩
 simp_all
theorem nR:∀b:UInt8,(Lib.lowerB b==32)=(b==32):=by
 intro b;have:∀n:Fin 256,(Lib.lowerB (UInt8.ofNat n.1)==32)=(UInt8.ofNat n.1==32):=by decide+kernel
 have h:=this ⟨b.toNat,b.toNat_lt⟩
 simp_all
theorem Ai(s:List UInt8):Lib.toLowerA (Lib.toLowerA s)=Lib.toLowerA s:=by
 unfold Lib.toLowerA
 grind[List.map_map,List.map_congr_left,ydt]
theorem xq:∀s:List UInt8,hasD (Lib.toLowerA s)=hasD s
 |[]=>rfl
 |[_]=>rfl
 |a::b::r=>by
  have ih:=xq (b::r);show((Lib.lowerB a==32&&Lib.lowerB b==32)||hasD (Lib.toLowerA (b::r)))=_
  grind[nR,hasD]
theorem pL:∀s:List UInt8,repD (Lib.toLowerA s)=Lib.toLowerA (repD s)
 |[]=>rfl
 |[_]=>rfl
 |a::b::r=>by
  have c:=pL r;have d:=pL (b::r);show(if(Lib.lowerB a==32&&Lib.lowerB b==32)=true then 32::repD (Lib.toLowerA r)else Lib.lowerB a::repD (Lib.toLowerA (b::r)))=_;rw[nR,nR,c,d,repD];split
  ·show _=Lib.lowerB 32::Lib.toLowerA (repD r);rw[show Lib.lowerB 32=32 by decide]
  rfl
theorem sE:∀(f:Nat) (s:List UInt8),spS f (Lib.toLowerA s)=Lib.toLowerA (spS f s)
 |0,_=>rfl
 |f+1,s=>by
  rw[spS,spS,xq];split
  ·rw[pL];exact sE f _
  rfl
theorem Cu(s:List UInt8):(Lib.toLowerA s).length=s.length:=by unfold Lib.toLowerA;simp
theorem sG:∀(f:Nat) (s:List UInt8),s.length<=f->hasD (spS f s)=false
 |0,s,h=>by
  grind[hasD,spS]
 |f+1,s,h=>by
  rw[spS];by_cases a:hasD s=true
  ·rw[if_pos a];exact sG f _ (by have:=iX s a;omega)
  grind
theorem vI(x:Ln):foldL (foldL x)=foldL x:=Prod.ext (Ai _) rfl
theorem tE(x:Ln):cU (cU x)=cU x:=Prod.ext (sD (sG _ _ (qj _))) rfl
theorem us(x:Ln):foldL (cU x)=cU (foldL x):=by
 grind[Prod.ext,sE,Cu,spS,foldL,cU]
theorem ydm{n k:Int}(b:0<=k)(x:Ln):limL k (limL n x)=limL (if k < n then k else n) x:=by
 obtain⟨t,m⟩:=x;refine Prod.ext rfl ?_;cases m with
 |nil=>rfl
 |cons a r=>
  show(if(if a>n then 0 else a)>k then 0 else(if a>n then 0 else a))::r=(if a>(if k < n then k else n)then 0 else a)::r
  grind
theorem tm_tm{n k z:Int}(b:n=10\/n=100\/n=1000)(a:k=10\/k=100\/k=1000):(z - z.tmod n) - (z - z.tmod n).tmod k=z - z.tmod (if n < k then k else n):=by
 have e:∀z m:Int,0 < m->z.tmod m=if 0<=z then z % m else -((-z) % m):=by
  intro z m c;split
  ·grind
  ·rename_i h;have h1:=qd7 z m
   grind
 rcases b with rfl | rfl | rfl<;>rcases a with rfl | rfl | rfl
 all_goals
  grind
theorem yej{n k:Int}(d:n=10\/n=100\/n=1000)(c:k=10\/k=100\/k=1000)(x:Ln):eW k (eW n x)=eW (if n < k then k else n) x:=by
 obtain⟨t,m⟩:=x;refine Prod.ext rfl ?_
 match m with
 |[]=>rfl
 |[_]=>rfl
 |[_,_]=>rfl
 |a::b::z::r=>
  show a::b::(z - z.tmod n - (z - z.tmod n).tmod k)::r=a::b::(z - z.tmod _)::r;rw[tm_tm d c]
theorem Ca(e:p=6\/p=7)(g:VOK p v)(d:v.lost=false)(l:v.w<=1)(hh:v.h<=1):halV v=v:=by
 obtain⟨h1,i,j,a⟩:=fY g d e;obtain⟨f,L,w,h,bits⟩:=v;dsimp only at*;subst d h1;have c:(w=0/\h=0)\/(w=1/\h=1):=by omega
 have hb:bits=[]\/(w=1/\h=1/\∃b,bits=[b]/\(b=48\/b=49)):=by
  rcases e with k | h7
  ·rw[if_neg oo]at a;exact .inl a
  ·rw[if_pos h7]at a;rcases c with⟨rfl,rfl⟩ | ⟨rfl,rfl⟩
   ·exact .inl (q5 (by have:=a.1;omega))
   ·right;refine⟨rfl,rfl,?_⟩
    match bits,a.1,a.2 with
    |[b],_,h5=>
     refine⟨b,rfl,?_⟩;simpa using h5
    |[],h5,_=>simp at h5
    |_::_::_,h5,_=>simp only[qf]at h5;omega
 unfold halV;dsimp only;rcases hb with rfl | ⟨rfl,rfl,b,rfl,hb⟩
 ·rcases c with⟨rfl,rfl⟩ | ⟨rfl,rfl⟩<;>rfl
 grind[halB,VOK]
theorem yB(a:v.lost=false)(r:List Stp):runS ((5,0)::r) v=runS r (halV v):=by
 grind[runS,stepS]
theorem half6(a:p=6\/p=7)(c:VOK p v)(b:v.lost=false):
  runS [(5,0),(5,0),(5,0),(5,0),(5,0),(5,0)] v=runS [(5,0),(5,0),(5,0),(5,0),(5,0)] v:=by
 obtain⟨_,i,j,_⟩:=fY c b a;rw[yB b,yB b];have d:=iP a c b;have e:=iP a d rfl;have f:=iP a e rfl;have g:=iP a f rfl;have h:=iP a g rfl;show halV (halV (halV (halV (halV (halV v)))))=halV (halV (halV (halV (halV v))));refine Ca a h rfl ?_ ?_
 ·show(((((v.w+1) / 2+1) / 2+1) / 2+1) / 2+1) / 2<=1;omega
 grind[halV,VOK]
theorem mm{f g k:Ln->Ln}(h:∀x,g (f x)=k x)(L:List Ln):(L.map f).map g=L.map k:=by
 simp_all
theorem At(n k:Int):normS [(4,n),(4,k)]=[(4,if k < n then k else n)]:=by
 rfl
theorem Au(n k:Int):normS [(3,n),(3,k)]=[(3,if n < k then k else n)]:=by
 rfl
theorem yd0(a:p=6\/p=7){m:List Stp}(h:m∈nfs p):m=[(6,0)]\/∃k,k<=5/\m=List.replicate k (5,0):=by
 rcases a with rfl | rfl
 all_goals
  rw[nfs,if_neg dd,if_neg dd,if_neg dd,if_pos dd]at h;simp only[qi,qp,or_false]at h;rcases h with rfl | rfl | rfl | rfl | rfl | rfl | rfl
  ·grind
  ·simp_all
  ·exact .inr ⟨1,by omega,rfl⟩
  ·exact .inr ⟨2,by omega,rfl⟩
  ·exact .inr ⟨3,by omega,rfl⟩
  ·exact .inr ⟨4,by omega,rfl⟩
  ·exact .inr ⟨5,by omega,rfl⟩
theorem yav(q:1<=p/\p<=8){m:List Stp}(b:m∈nfs p){s:Stp}(a:s∈sts p)(o:∀x∈m,aS p x=true)(u:VOK p v):runS (normS (m++[s])) v=runS (m++[s]) v:=by
 by_cases g:v.lost=true
 ·grind[ko,mu]
 have g:v.lost=false:=by simpa using g
 by_cases f:s=(6,0)
 ·subst f;rw[fX (by rw[fa,mw];simp),qG u,jS,qG (kE q m v o u)]
 by_cases j:m=[(6,0)]
 ·grind[fX,fa,mw,jS,qG,mu]
 obtain⟨i,L,w,h,bits⟩:=v;replace g:i=false:=g;subst g;rcases p8 q with rfl | rfl | rfl | rfl | rfl | hp6 | hp7 | rfl
 ·rw[nfs,if_pos rfl]at b;rw[sts,if_pos rfl]at a;simp only[qi,qp,or_false]at b a;rcases b with b | rfl | rfl | rfl | rfl
  ·exact absurd b j
  all_goals
   rcases a with a | rfl | rfl
   ·exact absurd a f
  ·rfl
  ·rfl
  ·show Val.mk false (L.map foldL) w h bits=Val.mk false ((L.map foldL).map foldL) w h bits;rw[mm vI]
  ·rfl
  ·show Val.mk false ((L.map foldL).map cU) w h bits=Val.mk false ((L.map cU).map foldL) w h bits;rw[mm (k:=fun x=>cU (foldL x)) (fun x=>rfl),mm us]
  ·show Val.mk false (L.map cU) w h bits=Val.mk false ((L.map cU).map cU) w h bits;rw[mm tE]
  ·show Val.mk false ((L.map foldL).map cU) w h bits=Val.mk false (((L.map foldL).map cU).map foldL) w h bits;rw[mm us,mm (k:=fun x=>cU (foldL x)) (fun x=>rfl),mm (k:=fun x=>cU (foldL x)) (fun x=>by rw[vI])]
  ·show Val.mk false ((L.map foldL).map cU) w h bits=Val.mk false (((L.map foldL).map cU).map cU) w h bits;rw[mm tE]
 ·rw[nfs,if_neg dd,if_pos rfl]at b;rw[sts,if_neg dd,if_pos rfl]at a
  have e:m=[]\/∃n,m=[(4,n)]:=by
   simp only[qi,qp,or_false]at b;rcases b with b | rfl | rfl | rfl | rfl | rfl | rfl | rfl | rfl
   ·exact absurd b j
   ·exact .inl rfl
   all_goals grind
  have c:∃k,0<=k/\s=(4,k):=by
   simp only[qi,qp,or_false]at a;rcases a with a | rfl | rfl | rfl | rfl | rfl | rfl | rfl
   ·exact absurd a f
   all_goals exact⟨_,by decide,rfl⟩
  obtain⟨k,l,rfl⟩:=c;rcases e with rfl | ⟨n,rfl⟩
  ·rfl
  ·show runS (normS [(4,n),(4,k)]) _=_;rw[At];show Val.mk false (L.map (limL (if k < n then k else n))) w h bits=Val.mk false ((L.map (limL n)).map (limL k)) w h bits;rw[mm (ydm l)]
 case inr.inr.inl | inr.inr.inr.inr.inl=>
  rw[nfs,if_neg dd,if_neg dd,if_pos dd]at b;rw[sts,if_neg dd,if_neg dd,if_pos dd]at a
  have e:m=[]\/∃n,(n=10\/n=100\/n=1000)/\m=[(3,n)]:=by
   simp only[qi,qp,or_false]at b;rcases b with b | rfl | rfl | rfl | rfl
   ·exact absurd b j
   ·exact .inl rfl
   all_goals grind
  have c:∃k,(k=10\/k=100\/k=1000)/\s=(3,k):=by
   simp only[qi,qp,or_false]at a;rcases a with a | rfl | rfl | rfl
   ·exact absurd a f
   all_goals exact⟨_,by decide,rfl⟩
  obtain⟨k,l,rfl⟩:=c;rcases e with rfl | ⟨n,y,rfl⟩
  ·rfl
  ·show runS (normS [(3,n),(3,k)]) _=_;rw[Au];show Val.mk false (L.map (eW (if n < k then k else n))) w h bits=Val.mk false ((L.map (eW n)).map (eW k)) w h bits
   grind[mm,yej]
 case inr.inr.inr.inl | inr.inr.inr.inr.inr.inr.inr=>
  grind[sts]
 all_goals
  have d:p=6\/p=7:=by omega
  have c:s=(5,0):=by
   rw[sts,if_neg oo,if_neg oo,if_neg oo,if_pos d]at a;simp only[qi,qp,or_false]at a;exact a.resolve_left f
  subst c;obtain⟨k,l,rfl⟩:=(yd0 d b).resolve_left j;rw[show List.replicate k ((5:Int),(0:Int))++[(5,0)]=List.replicate (k+1) (5,0)by rw[qdz],CI]
  grind[Nat.min_eq_left,half6,runS,VOK,sts,nfs,aS]
theorem yau(b:1<=p/\p<=8)(l:List Stp):(∀s∈l,aS p s=true)->∀v,VOK p v->runS (normS l) v=runS l v:=by
 refine yI (P:=fun l=>(∀s∈l,aS p s=true)->∀v,VOK p v->runS (normS l) v=runS l v) ?_ ?_ l
 ·intro _ v _;rfl
 ·intro l x ih h v e;have c:∀s∈l,aS p s=true:=fun s f=>h s (qa3 _ f)
  have g:=h x ss;have d:=pu b l c;have a:∀s∈normS l,aS p s=true:=ygo b _ d;rw[<-v6,yav b d (rN b g) a e,jS,jS,ih c v e]
theorem jJ{l:List Stp}(a:aM p l=true)(b:VOK p v):cQ p l (bE p v)=(bE p (runS l v),0):=by
 rw[cQ,if_pos a,EA (fM a) b]
theorem yb5{l:List Stp}(a:aM p l=true)(b:VOK p v):VOK p (runS l v):=kE (fM a) l v (fv a) b
theorem Ap(a:1<=p/\p<=8):∀m∈nfs p,aM p m=true:=by
 rcases p8 a with rfl | rfl | rfl | rfl | rfl | rfl | rfl | rfl<;>decide+kernel
theorem yd1{l:List Stp}(a:aM p l=true):normS l∈nfs p:=pu (fM a) l (fv a)
variable {a b:List Stp}
theorem ybn(c:aM p a=true)(hb:aM p b=true):∀s∈a++b,aS p s=true:=fun s d=>by
 rcases yd.1 d with h | h
 ·exact fv c s h
 ·exact fv hb s h
theorem ycy(c:aM p a=true)(hb:aM p b=true):normS (a++b)∈nfs p:=pu (fM c) _ (ybn c hb)
theorem compV(c:aM p a=true)(hb:aM p b=true):aM p (normS (a++b))=true:=Ap (fM c) _ (ycy c hb)
theorem yat(c:aM p a=true)(hb:aM p b=true)(d:VOK p v):runS (normS (a++b)) v=runS b (runS a v):=by
 rw[yau (fM c) _ (ybn c hb) v d,jS]
instance decNums (p:Int):∀(l acc:List Int),Decidable (dK p acc l)
 |[],_=>isTrue trivial
 |x::r,acc=>@instDecidableAnd _ _ inferInstance (decNums p r (acc++[x]))
instance decLn (p:Int) (before:List Ln) (x:Ln):Decidable (lnOk p before x):=by
 unfold lnOk
 have:Decidable (∀y,before.getLast? =some y->cmpL (y.2.take 2) (x.2.take 2) < 0):=by
  cases h:before.getLast? with
  |none=>exact isTrue (fun y hy=>by cases hy)
  |some z=>
   by_cases hz:cmpL (z.2.take 2) (x.2.take 2) < 0
   ·exact isTrue (fun y hy=>by cases hy;exact hz)
   ·exact isFalse (fun hy=>hz (hy z rfl))
 infer_instance
instance decLns (p:Int):∀(l acc:List Ln),Decidable (lnsOk p acc l)
 |[],_=>isTrue trivial
 |x::r,acc=>@instDecidableAnd _ _ (decLn p acc x) (decLns p r (acc++[x]))
def VOK1(p:Int)(v:Val):Prop:=v.lost=false/\
  if p=8 then v.lines=[]/\v.bits=[]/\(0<=v.w/\v.w<=64)/\(0<=v.h/\v.h<=64)
  else if 6<=p then v.lines=[]/\(0<=v.w/\v.w<=32)/\(min v.w 1<=v.h/\v.h<=min v.w 1*32)/\(if p=7 then(v.bits.length:Int)=v.w*v.h/\v.bits.all (fun b=>b==48||b==49)=true else v.bits=[])
  else v.w=0/\v.h=0/\v.bits=[]/\v.lines.length<=64/\lnsOk p [] v.lines
instance decVOK (p:Int) (v:Val):Decidable (VOK1 p v):=by unfold VOK1;infer_instance
theorem nilV(a:1<=p/\p<=8):aM p []=true:=by
 rcases p8 a with rfl | rfl | rfl | rfl | rfl | rfl | rfl | rfl<;>decide
end Go.Proofs.YtfnkamphhpldcaaGreatDoor
namespace Sx
open Go
theorem yfa{P:Program}{c:Code}{b:St}{Q:SE->St->Prop}{X:Type}(i:St)(I:X->St)(g:WfH b.h b.nx->WfT b.t b.nx->Le b i/\WP P c i (fun e f=>e=.normal/\∃x,Le f (I x)))(n:∀x,Q .normal (I x)):WP P c b Q:=by
 unfold WP;intro C ρ a w D;obtain⟨g,h1⟩:=g D.wfH D.wfT;unfold Le at g;obtain⟨q,k⟩:=g C ρ a w D;unfold WP at h1;refine wp_mono (h1 C q a w k) ?_;rintro e m o ⟨u,f,p,⟨rfl,x,d⟩,rfl,j⟩;unfold Le at d;obtain⟨s,l⟩:=d C p m o j;exact⟨.normal,I x,s,n x,rfl,l⟩
end Sx
namespace Go.Proofs.YtfnkamphhpldcaaGreatDoor
open Go Sx Tryz
set_option maxRecDepth 100000
theorem fy{P:Program}{F:Fz}{f:FuncId}{args:List SV}{b:Bool}{R:Fz->Prop}(h:Fo P F f args (fun o a=>o=.ret (.va (.bool b))/\R a)):Fo P F f args (fun o a=>o=.ret (.va (.lit b))/\R a):=by
 unfold Fo at*;refine ow h fun o h n i=>?_
 unfold Cln at*;intro C ρ w e j S k hb;obtain⟨c,d,g,n0,u,⟨l,m,p,x,rfl,q⟩,s,y,r⟩:=i C ρ w e j S k hb;exact⟨.ret (.va (.lit b)),d,g,n0,u,⟨l,m,p,rfl,rfl,q⟩,s,tv,r⟩
end Go.Proofs.YtfnkamphhpldcaaGreatDoor
namespace Go.Proofs.YtfnkamphhpldcaaGreatDoor
open Go Sx Tryz
set_option maxRecDepth 100000
theorem EQ{p:Int}{v:Val}(a:Fits v):(bE p v).length<=100000000000:=by
 unfold bE;split
 ·simp
 split
 ·have h1:=dt [v.w,v.h];have b:=eH v.bits;rw[qb];simp only[qf,qv]at h1;split
  ·omega
  ·simp only[qv];omega
 ·have h1:=dt [(v.lines.length:Int)];have b:=oJ (p:=p) v.lines (fun x d=>(a.h2 x d).2);have c:=a.h1;rw[qb];simp only[qf,qv]at h1;have e:74545*v.lines.length<=74545*1000:=qca _ c;omega
def foldB(b:UInt8):UInt8:=if 65<=b.toNat/\b.toNat<=90 then UInt8.ofNat (b.toNat+32)else b
theorem DG(b:UInt8):foldB b=Lib.lowerB b:=by
 unfold foldB Lib.lowerB Lib.isUpperB;by_cases h:65<=b.toNat/\b.toNat<=90
 ·have h1:(65:UInt8)<=b:=qbv.2 h.1;have c:b<=(90:UInt8):=qbv.2 h.2;rw[if_pos h,if_pos (by simp[h1,c])];apply qbq.1;rw[UInt8.toNat_add,qap];rfl
 ·rw[if_neg h,if_neg];intro a;simp only[qd,decide_eq_true_eq]at a;exact h ⟨qbv.1 a.1,qbv.1 a.2⟩
theorem Em(s:List UInt8):s.map foldB=Lib.toLowerA s:=by
 unfold Lib.toLowerA;exact qy fun b _=>DG b
theorem yaf(F:Fz)(s:List UInt8)(K:s.length < 1000000):Fo prog F 123 [.va (.str s)] (fun o I=>o=.ret (.va (.str (s.map foldB)))/\I=F):=by
 refine foS func123 ?_;conv=>whnf
 refine aI hΘ (X:={ x:Nat×List UInt8×Nat // x.1<=s.length/\x.2.1=(s.take x.1).map foldB }) (fun x=>[(3,.va (gA 1 1 x.1.2.2 x.1.2.1)),(4,.va (.int .i64 x.1.1))]) (jr 5 23 [])
  (fun x=>[(0,.frz F),(1,gE 5 1 encB x.1.2.2 x.1.2.1)]) 2 (fun x=>s.length - x.1.1) ⟨(0,[],0),by simp⟩
  (fun g l=>leI [(1,1)] g l rfl ⟨tv,aC aA _ _ _ _ _,tv⟩ ⟨rfl,rfl,tv⟩ ⟨Fz.r F,rfl,tv⟩) ?_
 rintro⟨⟨k,out,c⟩,G,D⟩ g l;replace G:k<=s.length:=G;replace D:out=(s.take k).map foldB:=D;have d:out.length=k:=by rw[D,qa,qn];omega
 refine br (fun y=>?_) (fun y=>?_)
 ·have E:k < s.length:=by
   have B:(k:Int) < (s.length:Int):=od y;omega
  clear y;have a:(s.take (k+1)).map foldB=out++[foldB s[k]]:=by rw[qe E,qq,D];rfl
  have J:=qcl s[k];refine⟨by dsimp only;omega,s[k],by dsimp only;rw[qg,qc E],fun w=>?_,fun w=>?_⟩
  ·have q:65<=s[k].toNat:=by
    have B:(65:Int)<=s[k].toNat:=od w;omega
   clear w;refine br (fun A=>?_) (fun A=>?_)
   ·have u:s[k].toNat<=90:=by
     have B:(s[k].toNat:Int)<=90:=od A;omega
    clear A
    have m:SA.int .u8 (IntKind.u8.wrap (IntKind.u8.wrap ((s[k].toNat:Int) - 65)+97))=SA.int .u8 ((foldB s[k]).toNat:Int):=by
     have h1:=og (n:=(s[k].toNat:Int) - 65) oo oo;rw[foldB,if_pos ⟨q,u⟩,h1,show(s[k].toNat:Int) - 65+97=((s[k].toNat+32:Nat):Int)by omega];exact mK _ oo
    rcases out with _ | ⟨e,b⟩
    ·refine⟨nb rfl,[encB (foldB s[k])],by show[[SA.int .u8 _]]=_;rw[m];rfl,rfl,rfl,nb rfl,fun c' f=>?_⟩;clear f;exact⟨⟨(k+1,([]:List UInt8)++[foldB s[k]],c'),by show k+1<=s.length;omega,a.symm⟩,by show s.length - (k+1) < s.length - k;omega,leR [(1,3)] g l rfl ⟨tv,aC aA _ _ _ _ _,tv⟩ ⟨cO (μ:=sig [(1,3)]) (i:=1) (j:=3) rfl 1 c' _ ([]) (foldB s[k]) rfl,cnt oo,tv⟩ ⟨Fz.r F,aH aA (bC [encB (foldB s[k])] rfl),tv⟩⟩
    ·skip
     replace d:b.length+1=k:=d;refine⟨nb rfl,[encB (foldB s[k])],by show[[SA.int .u8 _]]=_;rw[m];rfl,rfl,rfl,by simp,rfl,by show(b.length+1+1)*1<=140737488355328;omega,fun c' f=>?_⟩;clear f;exact⟨⟨(k+1,(e::b:List UInt8)++[foldB s[k]],c'),by show k+1<=s.length;omega,a.symm⟩,by show s.length - (k+1) < s.length - k;omega,leR [(1,3)] g l rfl ⟨tv,aC aA _ _ _ _ _,tv⟩ ⟨cO (μ:=sig [(1,3)]) (i:=1) (j:=3) rfl 1 c' _ (e::b) (foldB s[k]) rfl,cnt oo,tv⟩ ⟨Fz.r F,aH aA (bC _ ss),tv⟩⟩
   ·have u:¬s[k].toNat<=90:=by
     have B:¬(s[k].toNat:Int)<=90:=oe A;omega
    clear A;have m:SA.int .u8 (s[k].toNat:Int)=SA.int .u8 ((foldB s[k]).toNat:Int):=by rw[foldB,if_neg (fun h=>u h.2)]
    rcases out with _ | ⟨e,b⟩
    ·refine⟨nb rfl,[encB (foldB s[k])],by show[[SA.int .u8 _]]=_;rw[m];rfl,rfl,rfl,nb rfl,fun c' f=>?_⟩;clear f;exact⟨⟨(k+1,([]:List UInt8)++[foldB s[k]],c'),by show k+1<=s.length;omega,a.symm⟩,by show s.length - (k+1) < s.length - k;omega,leR [(1,3)] g l rfl ⟨tv,aC aA _ _ _ _ _,tv⟩ ⟨cO (μ:=sig [(1,3)]) (i:=1) (j:=3) rfl 1 c' _ ([]) (foldB s[k]) rfl,cnt oo,tv⟩ ⟨Fz.r F,aH aA (bC [encB (foldB s[k])] rfl),tv⟩⟩
    ·skip
     replace d:b.length+1=k:=d;refine⟨nb rfl,[encB (foldB s[k])],by show[[SA.int .u8 _]]=_;rw[m];rfl,rfl,rfl,by simp,rfl,by show(b.length+1+1)*1<=140737488355328;omega,fun c' f=>?_⟩;clear f;exact⟨⟨(k+1,(e::b:List UInt8)++[foldB s[k]],c'),by show k+1<=s.length;omega,a.symm⟩,by show s.length - (k+1) < s.length - k;omega,leR [(1,3)] g l rfl ⟨tv,aC aA _ _ _ _ _,tv⟩ ⟨cO (μ:=sig [(1,3)]) (i:=1) (j:=3) rfl 1 c' _ (e::b) (foldB s[k]) rfl,cnt oo,tv⟩ ⟨Fz.r F,aH aA (bC _ ss),tv⟩⟩
  ·have q:¬65<=s[k].toNat:=by
    have B:¬(65:Int)<=s[k].toNat:=oe w;omega
   clear w;have m:SA.int .u8 (s[k].toNat:Int)=SA.int .u8 ((foldB s[k]).toNat:Int):=by rw[foldB,if_neg (fun h=>q h.1)]
   rcases out with _ | ⟨e,b⟩
   ·refine⟨nb rfl,[encB (foldB s[k])],by show[[SA.int .u8 _]]=_;rw[m];rfl,rfl,rfl,nb rfl,fun c' f=>?_⟩;clear f;exact⟨⟨(k+1,([]:List UInt8)++[foldB s[k]],c'),by show k+1<=s.length;omega,a.symm⟩,by show s.length - (k+1) < s.length - k;omega,leR [(1,3)] g l rfl ⟨tv,aC aA _ _ _ _ _,tv⟩ ⟨cO (μ:=sig [(1,3)]) (i:=1) (j:=3) rfl 1 c' _ ([]) (foldB s[k]) rfl,cnt oo,tv⟩ ⟨Fz.r F,aH aA (bC [encB (foldB s[k])] rfl),tv⟩⟩
   ·skip
    replace d:b.length+1=k:=d;refine⟨nb rfl,[encB (foldB s[k])],by show[[SA.int .u8 _]]=_;rw[m];rfl,rfl,rfl,by simp,rfl,by show(b.length+1+1)*1<=140737488355328;omega,fun c' f=>?_⟩;clear f;exact⟨⟨(k+1,(e::b:List UInt8)++[foldB s[k]],c'),by show k+1<=s.length;omega,a.symm⟩,by show s.length - (k+1) < s.length - k;omega,leR [(1,3)] g l rfl ⟨tv,aC aA _ _ _ _ _,tv⟩ ⟨cO (μ:=sig [(1,3)]) (i:=1) (j:=3) rfl 1 c' _ (e::b) (foldB s[k]) rfl,cnt oo,tv⟩ ⟨Fz.r F,aH aA (bC _ ss),tv⟩⟩
 ·have E:¬k < s.length:=by
   have B:¬(k:Int) < (s.length:Int):=oe y;omega
  clear y;have p:out=s.map foldB:=by rw[D,qk oo]
  rcases out with _ | ⟨e,b⟩
  ·exact endFs (.ret (.va (.str []))) (Fz.r F) ⟨by rw[p],rfl⟩
  ·refine⟨rfl,by simp,(e::b).map encB,by simp[qk],e::b,rfl,?_⟩;exact endFs (.ret (.va (.str (e::b)))) (Fz.r F) ⟨by rw[p],rfl⟩
def spc:Bool->List UInt8->List UInt8
 |_,[]=>[]
 |p,b::r=>if b=32/\p=true then spc true r else b::spc (b==32) r
def lastS(p:Bool):List UInt8->Bool
 |[]=>p
 |b::r=>lastS (b==32) r
theorem xH:∀(l:List UInt8) (p:Bool) (x:UInt8),spc p (l++[x])=spc p l++(if x=32/\lastS p l=true then []else [x])
 |[],p,x=>by
  by_cases h:x=32/\p=true
  ·simp[spc,lastS,h]
  ·simp[spc,lastS,h]
 |b::r,p,x=>by
  have ih:=xH r;by_cases h:b=32/\p=true
  ·obtain⟨rfl,rfl⟩:=h;simp[spc,lastS,ih]
  ·rw[jz,spc,if_neg h,spc,if_neg h,ih,jz];rfl
theorem DW{s:List UInt8}{k:Nat}(h:k < s.length)(p:Bool):lastS p (s.take (k+1))=(s[k]==32):=by
 induction s generalizing k p with
 |nil=>simp at h
 |cons b r ih=>
  cases k with
  |zero=>simp[lastS]
  |succ k=>simp only[qd4,lastS,List.getElem_cons_succ];exact ih (by simpa using h) _
theorem n7:∀(l:List UInt8) (p:Bool),(spc p l).length<=l.length
 |[],p=>by simp[spc]
 |b::r,p=>by
  rw[spc];split
  ·have:=n7 r true;simp only[qf];omega
  ·have:=n7 r (b==32);simp only[qf];omega
theorem EF(F:Fz)(s:List UInt8)(V:s.length < 1000000):Fo prog F 124 [.va (.str s)] (fun o Q=>o=.ret (.va (.str (spc false s)))/\Q=F):=by
 refine foS func124 ?_;conv=>whnf
 refine aI hΘ (X:={ x:Nat×List UInt8×Nat // x.1<=s.length/\x.2.1=spc false (s.take x.1) }) (fun x=>[(3,.va (gA 1 1 x.1.2.2 x.1.2.1)),(4,.va (.int .i64 x.1.1))]) (jr 5 27 [])
  (fun x=>[(0,.frz F),(1,gE 5 1 encB x.1.2.2 x.1.2.1)]) 2 (fun x=>s.length - x.1.1) ⟨(0,[],0),by simp[spc]⟩
  (fun m n=>leI [(1,1)] m n rfl ⟨tv,aC aA _ _ _ _ _,tv⟩ ⟨rfl,rfl,tv⟩ ⟨Fz.r F,rfl,tv⟩) ?_
 rintro⟨⟨k,out,c⟩,O,J⟩ m n;replace O:k<=s.length:=O;replace J:out=spc false (s.take k):=J
 have f:out.length<=k:=by
  have:=n7 (s.take k) false;rw[J];rw[qn]at this;omega
 refine br (fun E=>?_) (fun E=>?_)
 ·have p:k < s.length:=by
   have l:(k:Int) < (s.length:Int):=od E;omega
  clear E;have b:spc false (s.take (k+1))=out++(if s[k]=32/\lastS false (s.take k)=true then []else [s[k]]):=by rw[qe p,xH,J]
  have A:(s[k].toNat:Int)=32↔s[k]=32:=by
   constructor
   ·intro h;exact qbq.1 (by(have:s[k].toNat=32:=by omega);simpa using this)
   ·intro h;rw[h];rfl
  have K:k - 1 < s.length:=by omega
  have I:¬k=0->lastS false (s.take k)=(s[k - 1]==32):=fun l=>by
   have:=DW K false
   rwa[show k - 1+1=k by omega]at this
  have B:(!decide ((s[k - 1].toNat:Int)=32))=true↔¬s[k - 1]=32:=by
   rw[qal,decide_eq_false_iff_not];refine not_congr ⟨fun h=>qbq.1 ?_,fun h=>by rw[h];rfl⟩;have:s[k - 1].toNat=32:=by omega
   simpa using this
  have R:¬k=0->¬s[k - 1]=32->spc false (s.take (k+1))=out++[s[k]]:=fun l h=>by rw[b,I l,if_neg (fun L=>h (by simpa using L.2))]
  have S:s[k]=32->¬k=0->s[k - 1]=32->spc false (s.take (k+1))=out:=fun h1 l h=>by rw[b,I l,if_pos ⟨h1,by simpa using h⟩,qx]
  have T:k=0->spc false (s.take (k+1))=out++[s[k]]:=fun l=>by
   have I:lastS false (s.take k)=false:=by rw[l];rfl
   rw[b,I,if_neg (fun h=>by simp at h)]
  have U:¬s[k]=32->spc false (s.take (k+1))=out++[s[k]]:=fun h=>by rw[b,if_neg (fun L=>h L.1)]
  clear b I;refine⟨by dsimp only;omega,s[k],by dsimp only;rw[qg,qc p],fun D=>?_,fun D=>?_⟩
  ·have w:s[k]=32:=A.1 (by simpa using D);clear D;refine⟨fun G=>?_,fun G=>?_⟩
   ·have q:¬k=0:=by
     have l:¬(k:Int)=0:=oe G;omega
    clear G;conv=>whnf
    have M:IntKind.i64.wrap ((k:Int) - 1)=((k - 1:Nat):Int):=by rw[aF oo oo];omega
    refine⟨by dsimp only;rw[M];omega,s[k - 1],by dsimp only;rw[M,qg,qc oo],?_⟩;refine br (fun y=>?_) (fun y=>?_)
    ·have a:=R q (B.1 y);clear y;rcases out with _ | ⟨e,d⟩
     ·refine⟨by dsimp only;omega,s[k],by dsimp only;rw[qg,qc p],nb rfl,[encB s[k]],rfl,rfl,rfl,nb rfl,fun c' g=>?_⟩;clear g;exact⟨⟨(k+1,([]:List UInt8)++[s[k]],c'),by show k+1<=s.length;omega,a.symm⟩,by show s.length - (k+1) < s.length - k;omega,leR [(1,3)] m n rfl ⟨tv,aC aA _ _ _ _ _,tv⟩ ⟨cO (μ:=sig [(1,3)]) (i:=1) (j:=3) rfl 1 c' _ ([]) s[k] rfl,cnt oo,tv⟩ ⟨Fz.r F,aH aA (bC [encB s[k]] rfl),tv⟩⟩
     ·skip
      replace f:d.length+1<=k:=f;refine⟨by dsimp only;omega,s[k],by dsimp only;rw[qg,qc p],nb rfl,[encB s[k]],rfl,rfl,rfl,by simp,rfl,by show(d.length+1+1)*1<=140737488355328;omega,fun c' g=>?_⟩;clear g;exact⟨⟨(k+1,(e::d:List UInt8)++[s[k]],c'),by show k+1<=s.length;omega,a.symm⟩,by show s.length - (k+1) < s.length - k;omega,leR [(1,3)] m n rfl ⟨tv,aC aA _ _ _ _ _,tv⟩ ⟨cO (μ:=sig [(1,3)]) (i:=1) (j:=3) rfl 1 c' _ (e::d) s[k] rfl,cnt oo,tv⟩ ⟨Fz.r F,aH aA (bC _ ss),tv⟩⟩
    ·have a:=S w q (Decidable.byContradiction fun h=>by rw[B.2 h]at y;cases y);clear y;rcases out with _ | ⟨e,d⟩
     ·exact⟨⟨(k+1,([]:List UInt8),c),by show k+1<=s.length;omega,a.symm⟩,by show s.length - (k+1) < s.length - k;omega,leR [(1,1)] m n rfl ⟨tv,aC aA _ _ _ _ _,tv⟩ ⟨rfl,cnt oo,tv⟩ ⟨Fz.r F,aH aA (aV _ _ _ _),tv⟩⟩
     ·exact⟨⟨(k+1,(e::d:List UInt8),c),by show k+1<=s.length;omega,a.symm⟩,by show s.length - (k+1) < s.length - k;omega,leR [(1,1)] m n rfl ⟨tv,aC aA _ _ _ _ _,tv⟩ ⟨⟨rfl,rfl,rfl,.inr ⟨rfl,rfl,rfl,rfl⟩⟩,cnt oo,tv⟩ ⟨Fz.r F,aH aA (aV _ _ _ _),tv⟩⟩
   ·have q:k=0:=by
     have l:(k:Int)=0:=od G;omega
    clear G;have a:=T q;rcases out with _ | ⟨e,d⟩
    ·refine⟨by dsimp only;omega,s[k],by dsimp only;rw[qg,qc p],nb rfl,[encB s[k]],rfl,rfl,rfl,nb rfl,fun c' g=>?_⟩;clear g;exact⟨⟨(k+1,([]:List UInt8)++[s[k]],c'),by show k+1<=s.length;omega,a.symm⟩,by show s.length - (k+1) < s.length - k;omega,leR [(1,3)] m n rfl ⟨tv,aC aA _ _ _ _ _,tv⟩ ⟨cO (μ:=sig [(1,3)]) (i:=1) (j:=3) rfl 1 c' _ ([]) s[k] rfl,cnt oo,tv⟩ ⟨Fz.r F,aH aA (bC [encB s[k]] rfl),tv⟩⟩
    ·skip
     replace f:d.length+1<=k:=f;refine⟨by dsimp only;omega,s[k],by dsimp only;rw[qg,qc p],nb rfl,[encB s[k]],rfl,rfl,rfl,by simp,rfl,by show(d.length+1+1)*1<=140737488355328;omega,fun c' g=>?_⟩;clear g;exact⟨⟨(k+1,(e::d:List UInt8)++[s[k]],c'),by show k+1<=s.length;omega,a.symm⟩,by show s.length - (k+1) < s.length - k;omega,leR [(1,3)] m n rfl ⟨tv,aC aA _ _ _ _ _,tv⟩ ⟨cO (μ:=sig [(1,3)]) (i:=1) (j:=3) rfl 1 c' _ (e::d) s[k] rfl,cnt oo,tv⟩ ⟨Fz.r F,aH aA (bC _ ss),tv⟩⟩
  ·have w:¬s[k]=32:=fun h=>by
    have:=A.2 h;simp[this]at D
   have a:=U w;clear D;rcases out with _ | ⟨e,d⟩
   ·refine⟨by dsimp only;omega,s[k],by dsimp only;rw[qg,qc p],nb rfl,[encB s[k]],rfl,rfl,rfl,nb rfl,fun c' g=>?_⟩;clear g;exact⟨⟨(k+1,([]:List UInt8)++[s[k]],c'),by show k+1<=s.length;omega,a.symm⟩,by show s.length - (k+1) < s.length - k;omega,leR [(1,3)] m n rfl ⟨tv,aC aA _ _ _ _ _,tv⟩ ⟨cO (μ:=sig [(1,3)]) (i:=1) (j:=3) rfl 1 c' _ ([]) s[k] rfl,cnt oo,tv⟩ ⟨Fz.r F,aH aA (bC [encB s[k]] rfl),tv⟩⟩
   ·skip
    replace f:d.length+1<=k:=f;refine⟨by dsimp only;omega,s[k],by dsimp only;rw[qg,qc p],nb rfl,[encB s[k]],rfl,rfl,rfl,by simp,rfl,by show(d.length+1+1)*1<=140737488355328;omega,fun c' g=>?_⟩;clear g;exact⟨⟨(k+1,(e::d:List UInt8)++[s[k]],c'),by show k+1<=s.length;omega,a.symm⟩,by show s.length - (k+1) < s.length - k;omega,leR [(1,3)] m n rfl ⟨tv,aC aA _ _ _ _ _,tv⟩ ⟨cO (μ:=sig [(1,3)]) (i:=1) (j:=3) rfl 1 c' _ (e::d) s[k] rfl,cnt oo,tv⟩ ⟨Fz.r F,aH aA (bC _ ss),tv⟩⟩
 ·have p:¬k < s.length:=by
   have l:¬(k:Int) < (s.length:Int):=oe E;omega
  clear E;have u:out=spc false s:=by rw[J,qk oo]
  rcases out with _ | ⟨e,d⟩
  ·exact endFs (.ret (.va (.str []))) (Fz.r F) ⟨by rw[u],rfl⟩
  ·refine⟨rfl,by simp,(e::d).map encB,by simp[qk],e::d,rfl,?_⟩;exact endFs (.ret (.va (.str (e::d)))) (Fz.r F) ⟨by rw[u],rfl⟩
def vals:List UInt8->Nat
 |[]=>0
 |b::r=>b.toNat % 128+128*vals r
theorem pa:∀(l:List UInt8) (b:UInt8),vals (l++[b])=vals l+b.toNat % 128*128^l.length
 |[],b=>by simp[vals]
 |x::r,b=>by
  simp only[jz,vals,pa r b,qf,qck,qea]
  have:128*(b.toNat % 128*128^r.length)=b.toNat % 128*(128^r.length*128):=by
   rw[qae (128^r.length) 128,<-qcr,<-qcr,qae 128 (b.toNat % 128)]
  omega
theorem yec(z:Nat):putZ z≠[]:=by
 by_cases h:z < 128
 ·rw[fx h];simp
 ·rw[gq h];simp
theorem wk:∀(a:List UInt8) (b:UInt8),(∀x∈a,128<=x.toNat)->b.toNat < 128->(a=[]\/b≠0)->putZ (vals (a++[b]))=a++[b]
 |[],b,_,hb,_=>by
  have e:vals ([]++[b])=b.toNat:=by simp[vals,ju hb]
  rw[e,fx hb];simp
 |x::r,b,hp,hb,hn=>by
  have c:b≠0:=by rcases hn with h | h;cases h;exact h
  have d:0 < b.toNat:=by
   refine Nat.pos_of_ne_zero fun h=>c (qbq.1 (by simpa using h))
  have ih:=wk r b (fun y g=>hp y (yj _ g)) hb (.inr c)
  have i:1<=vals (r++[b]):=by
   rw[pa,ju hb];have:1*1<=b.toNat*128^r.length:=qah d (Nat.pow_pos oo);omega
  have j:=hp x (qbn ..);have f:=x.toNat_lt;have e:vals ((x::r)++[b])=x.toNat % 128+128*vals (r++[b]):=rfl;rw[e,gq oo,show(x.toNat % 128+128*vals (r++[b])) / 128=vals (r++[b])by omega,ih,show(x.toNat % 128+128*vals (r++[b])) % 128+128=x.toNat by omega];simp
theorem AE(z:Nat):∀l:List UInt8,putZ z=l++[0]->l=[]:=by
 induction z using Nat.strongRecOn with
 |_ z ih=>
  intro l h;by_cases d:z < 128
  ·rw[fx d]at h;cases l with
   |nil=>rfl
   |cons y r=>cases r<;>simp at h
  ·rw[gq d]at h;cases l with
   |nil=>rfl
   |cons y r=>
    simp only[jz,List.cons.injEq]at h;have e:=ih (z / 128) oo r h.2;subst e;have a:=h.2;by_cases b:z / 128 < 128
    ·rw[fx b]at a;simp only[qw,List.cons.injEq,and_true]at a;have c:=congrArg UInt8.toNat a;rw[qap,ju oo]at c;have f:z / 128=0:=c;omega
    ·rw[gq b]at a;simp only[qw,List.cons.injEq]at a;exact absurd a.2 (yec _)
theorem ye7(z:Nat):cE (unz z)=z:=by
 unfold cE unz;split<;>split<;>omega
theorem wj{z:Nat}(h:¬unz z < -4611686018427387903)(b:z < 9223372036854775808):putIR (unz z)=(putZ z,0):=by
 have a:unz z<=4611686018427387903:=by unfold unz;split<;>omega
 rw[putIR,if_neg oo,putI,ye7]
theorem uF{z:Nat}(h:unz z < -4611686018427387903):putIR (unz z)=([],10):=by
 rw[putIR,if_pos (.inl h)]
theorem Ax(a:List UInt8)(b:UInt8)(f:∀x∈a,128<=x.toNat)(hb:b.toNat < 128):putZ (vals (a++[b]))=a++[b]↔¬(b=0/\0 < a.length):=by
 constructor
 ·rintro h ⟨rfl,e⟩;have:=AE _ _ h;subst this;simp at e
 ·intro h;refine wk a b f hb ?_;by_cases c:b=0
  ·exact .inl (q5 (by
    have:¬0 < a.length:=fun d=>h ⟨c,d⟩
    omega))
  ·exact .inr c
theorem so(F:Fz)(s:List UInt8)(p:Int)(hs:s.length<=1000000000000000000)(hp:i64 p):
  Fo prog F 84 [.va (.str s),.va (.int .i64 p)] (fun o F'=>o=.ret (.tup [.va (.int .i64 (getI s p).1),.va (.int .i64 (getI s p).2.1),.va (.int .i64 (getI s p).2.2)])/\F'=F):=by
 have fin:∀(n x e:Int) (h:Hp) (nx:Nat),getI s p=(n,x,e)->lget h 0=some (.frz F)->
   Cln 1 (FoK F fun o F'=>o=.ret (.tup [.va (.int .i64 (getI s p).1),.va (.int .i64 (getI s p).2.1),.va (.int .i64 (getI s p).2.2)])/\F'=F) (.ret (.tup [.va (.int .i64 n),.va (.int .i64 x),.va (.int .i64 e)])) h nx:=by
  intro n x e h nx hv k;exact endFo (.ret (.tup [.va (.int .i64 n),.va (.int .i64 x),.va (.int .i64 e)])) F k (Fz.r F) (Fz.r F) ⟨by rw[hv],rfl⟩ (aO _) rfl
 refine foS func84 ?_;refine⟨fun g=>?_,fun g=>?_⟩
 ·have g1:¬p < 0:=by simpa using g
  refine br (fun g=>?_) (fun g=>?_)
  ·have g2:(s.length:Int) < p:=by simpa using g
   exact fin 0 0 2 _ _ (by rw[getI,if_pos (.inr g2)]) rfl
  ·have g2:¬(s.length:Int) < p:=by simpa using g
   have af:∃a:Nat,p=a/\a<=s.length:=⟨p.toNat,by omega,by omega⟩
   obtain⟨a,ea,ac⟩:=af;subst ea
   have hg:getI s a=match decZ (s.drop a) 9 0 0 with
    |none=>(0,0,10)
    |some (z,i,b)=>if(b=0/\0 < i)\/unz z < -4611686018427387903 then(0,0,10)else(unz z,a+i+1,0):=by
    rw[getI,if_neg oo];rfl
   have aa:decZ (s.drop a) 9 0 0=none->getI s a=(0,0,10):=fun h=>by rw[hg,h]
   conv=>whnf
   refine aI hΘ (X:={ x:Nat×Nat // (x.1<=9/\a+x.1<=s.length)/\x.2 < 128^x.1/\decZ (s.drop a) 9 0 0=decZ (s.drop (a+x.1)) (9 - x.1) x.1 x.2/\(∀y∈(s.drop a).take x.1,128<=y.toNat)/\vals ((s.drop a).take x.1)=x.2 }) (fun x=>[(7,.va (.int .u64 x.1.2)),(8,.va (.int .i64 x.1.1))]) (4::5::6::9::10::11::12::jr 21 59 []) (fz fun _=>F) 1 (fun x=>9 - x.1.1) ⟨(0,0),by simp[ac],by simp,rfl,by simp,by simp[vals]⟩
    (fun hH hT=>le0 hH hT rfl (Fz.r F) rfl ⟨rfl,rfl,tv⟩) ?_
   rintro⟨⟨i,z⟩,hi,Q,W,q,hv⟩ hH hT;replace hi:i<=9/\a+i<=s.length:=hi;replace Q:z < 128^i:=Q;replace W:decZ (s.drop a) 9 0 0=decZ (s.drop (a+i)) (9 - i) i z:=W;replace q:∀y∈(s.drop a).take i,128<=y.toNat:=q;replace hv:vals ((s.drop a).take i)=z:=hv;have D:((s.drop a).take i).length=i:=by rw[qn,yl];omega
   have R:IntKind.i64.wrap ((a:Int)+i)=((a+i:Nat):Int):=by rw[aF oo oo];rfl
   refine⟨fun gb=>?_,fun gb=>?_⟩
   ·have gi:i < 9:=by
     have k:(i:Int) < 9:=by simpa using gb
     omega
    clear gb;have h9:9 - i=(9 - (i+1))+1:=by omega
    refine br (fun gc=>?_) (fun gc=>?_)
    ·have gl:a+i < s.length:=by
      have k:IntKind.i64.wrap ((a:Int)+i) < (s.length:Int):=by simpa using gc
      rw[R]at k;omega
     clear gc;have u:=W;rw[drop_at gl,h9,decZ]at u;have hm:s[a+i].toNat % 128 < 128:=qa1 _ oo;have L:=nv Q hm;have aj:=shl7 (s[a+i].toNat % 128) i hm oo;have al:(s[a+i].toNat:Int).tmod 128=((s[a+i].toNat % 128:Nat):Int):=rfl
     have an:128^(i+1)<=9223372036854775808:=by
      have:128^(i+1)<=128^9:=qa4 oo oo;exact this
     have am:=s[a+i].toNat_lt;have w:IntKind.u64.wrap (s[a+i].toNat:Int)=(s[a+i].toNat:Int):=eC oo oo
     have j:IntKind.u64.wrap ((z:Int)+shlI .u64 ((IntKind.u64.wrap (s[a+i].toNat:Int)).tmod 128) (IntKind.i64.wrap (7*(i:Int))))=((z+s[a+i].toNat % 128*128^i:Nat):Int):=by
      rw[w,al,aj,eC oo oo];omega
     have f:(s.drop a).take (i+1)=(s.drop a).take i++[s[a+i]]:=by
      have h1:i < (s.drop a).length:=by rw[yl];omega
      rw[qe h1];simp
     have I:vals ((s.drop a).take (i+1))=z+s[a+i].toNat % 128*128^i:=by rw[f,pa,hv,D]
     refine⟨by dsimp only;rw[R];omega,s[a+i],by dsimp only;rw[R,qg,qc gl],by decide,by dsimp only;rw[aF oo oo];omega,?_⟩;refine br (fun S=>?_) (fun S=>?_)
     ·have l:128<=s[a+i].toNat:=by
       have k:(128:Int)<=IntKind.u64.wrap (s[a+i].toNat:Int):=od S;rw[w]at k;omega
      clear S;rw[if_pos l]at u
      have ai:∀y∈(s.drop a).take (i+1),128<=y.toNat:=by
       intro y hy;rw[f]at hy;rcases yd.1 hy with h | h
       ·exact q y h
       ·rw[qs.1 h];exact l
      refine⟨⟨(i+1,z+s[a+i].toNat % 128*128^i),by show i+1<=9/\a+(i+1)<=s.length;omega,L,u,ai,I⟩,by show 9 - (i+1) < 9 - i;omega,lr0 hH hT rfl (Fz.r F) rfl ⟨?_,cnt oo,tv⟩⟩;exact congrArg (SA.int .u64) j.symm
     ·have l:¬128<=s[a+i].toNat:=by
       have k:¬(128:Int)<=IntKind.u64.wrap (s[a+i].toNat:Int):=oe S;rw[w]at k;omega
      clear S;rw[if_neg l]at u;have ag:s[a+i].toNat % 128=s[a+i].toNat:=ju oo;rw[ag]at j L I;have hZ:∃Z,Z=z+s[a+i].toNat*128^i:=⟨_,rfl⟩
      obtain⟨Z,hZ⟩:=hZ;rw[<-hZ]at j L I u;have T:Z < 9223372036854775808:=by omega
      have d:getI s a=if(s[a+i]=0/\0 < i)\/unz Z < -4611686018427387903 then(0,0,10)else(unz Z,(a:Int)+i+1,0):=by rw[hg,u]
      have ad:Z=vals ((s.drop a).take i++[s[a+i]]):=by rw[<-I,f]
      have K:=Ax ((s.drop a).take i) s[a+i] q oo;rw[<-ad,<-f,D]at K;have c:=fj F (unz Z);have hr:unz Z < -4611686018427387903\/¬unz Z < -4611686018427387903:=Decidable.em _;have ak:(s.take (a+i+1)).drop a=(s.drop a).take (i+1):=by rw[List.drop_take];congr 1;omega
      have E:IntKind.i64.wrap (IntKind.i64.wrap ((a:Int)+i)+1)=((a+i+1:Nat):Int):=by rw[R,aF oo oo];omega
      have U:0<=IntKind.i64.wrap (IntKind.i64.wrap ((a:Int)+i)+1)/\IntKind.i64.wrap (IntKind.i64.wrap ((a:Int)+i)+1)<=(s.length:Int):=by rw[E];omega
      have V:0<=(a:Int)/\(a:Int)<=IntKind.i64.wrap (IntKind.i64.wrap ((a:Int)+i)+1):=by rw[E];omega
      have Y:IntKind.i64.wrap (IntKind.i64.wrap ((a:Int)+i)+1)=(a:Int)+i+1:=by rw[E];omega
      have A:(putZ Z==List.drop (a:Int).toNat (List.take (IntKind.i64.wrap (IntKind.i64.wrap ((a:Int)+i)+1)).toNat s))=decide (¬(s[a+i]=0/\0 < i)):=by
       rw[E,qg,qg,ak,qdq,beq_iff_eq,decide_eq_true_iff];exact K
      have J:(!(putZ Z==List.drop (a:Int).toNat (List.take (IntKind.i64.wrap (IntKind.i64.wrap ((a:Int)+i)+1)).toNat s)))=true->s[a+i]=0/\0 < i:=fun h=>by
       rw[A]at h
       exact Decidable.byContradiction fun h'=>by
        rw[decide_eq_true h']at h;cases h
      have B:(!(putZ Z==List.drop (a:Int).toNat (List.take (IntKind.i64.wrap (IntKind.i64.wrap ((a:Int)+i)+1)).toNat s)))=false->¬(s[a+i]=0/\0 < i):=fun h=>by
       rw[A]at h
       exact od (by
        rw[Bool.not_eq_false']at h;exact h)
      clear A
      have G:IntKind.i64.wrap (IntKind.u64.wrap ((IntKind.u64.wrap ((z:Int)+shlI .u64 ((IntKind.u64.wrap (s[a+i].toNat:Int)).tmod 128) (IntKind.i64.wrap (7*(i:Int))))).tdiv 2))=((Z / 2:Nat):Int):=by
       have h1:(Z:Int).tdiv 2=((Z / 2:Nat):Int):=rfl;rw[j,h1,eC oo oo,aF oo oo]
      have m:((IntKind.u64.wrap ((z:Int)+shlI .u64 ((IntKind.u64.wrap (s[a+i].toNat:Int)).tmod 128) (IntKind.i64.wrap (7*(i:Int))))).tmod 2)=((Z % 2:Nat):Int):=by
       rw[j];rfl
      refine⟨by decide,by decide,?_⟩;refine br (fun gp=>?_) (fun gp=>?_)
      ·have ab:Z % 2=1:=by
        have k:=od gp;rw[m]at k;omega
       have M:IntKind.i64.wrap (IntKind.i64.wrap (0 - IntKind.i64.wrap (IntKind.u64.wrap ((IntKind.u64.wrap ((z:Int)+shlI .u64 ((IntKind.u64.wrap (s[a+i].toNat:Int)).tmod 128) (IntKind.i64.wrap (7*(i:Int))))).tdiv 2))) - 1)=unz Z:=by
        have ah:IntKind.i64.wrap (0 - ((Z / 2:Nat):Int))= -((Z / 2:Nat):Int):=by rw[aF oo oo];omega
        rw[G,ah,aF oo oo,unz,if_pos ab]
       clear gp G m;rcases hr with hr | hr
       ·rw[uF hr]at c;refine usePu c rfl ⟨congrArg (SA.int .i64) M.symm,tv⟩ rfl ?_;refine gaf ss ?_;exact fin 0 0 10 _ _ (by rw[d,if_pos (.inr hr)]) rfl
       ·rw[wj hr T]at c;refine usePu c rfl ⟨congrArg (SA.int .i64) M.symm,tv⟩ rfl ?_;refine gae ss ⟨U,V,?_⟩;refine br (fun gx=>?_) (fun gx=>?_)
        ·have O:=J gx;exact fin 0 0 10 _ _ (by rw[d,if_pos (.inl O)]) rfl
        ·have O:=B gx;exact fin _ _ 0 _ _ (by rw[d,if_neg (by rintro(h | h);exact O h;exact hr h),<-M,<-Y]) rfl
      ·have ae:¬Z % 2=1:=by
        have k:=oe gp;rw[m]at k;omega
       have M:IntKind.i64.wrap (IntKind.u64.wrap ((IntKind.u64.wrap ((z:Int)+shlI .u64 ((IntKind.u64.wrap (s[a+i].toNat:Int)).tmod 128) (IntKind.i64.wrap (7*(i:Int))))).tdiv 2))=unz Z:=by
        rw[G,unz,if_neg ae]
       clear gp G m;rcases hr with hr | hr
       ·rw[uF hr]at c;refine usePu c rfl ⟨congrArg (SA.int .i64) M.symm,tv⟩ rfl ?_;refine gaf ss ?_;exact fin 0 0 10 _ _ (by rw[d,if_pos (.inr hr)]) rfl
       ·rw[wj hr T]at c;refine usePu c rfl ⟨congrArg (SA.int .i64) M.symm,tv⟩ rfl ?_;refine gae ss ⟨U,V,?_⟩;refine br (fun gx=>?_) (fun gx=>?_)
        ·have O:=J gx;exact fin 0 0 10 _ _ (by rw[d,if_pos (.inl O)]) rfl
        ·have O:=B gx;exact fin _ _ 0 _ _ (by rw[d,if_neg (by rintro(h | h);exact O h;exact hr h),<-M,<-Y]) rfl
    ·have gl:s.length<=a+i:=by
      have k:¬IntKind.i64.wrap ((a:Int)+i) < (s.length:Int):=by simpa using gc
      rw[R]at k;omega
     have Q:decZ (s.drop a) 9 0 0=none:=by rw[W,yg gl,vB]
     exact fin 0 0 10 _ _ (aa Q) rfl
   ·have gi:i=9:=by
     have k:¬(i:Int) < 9:=by simpa using gb
     omega
    subst gi;have Q:decZ (s.drop a) 9 0 0=none:=by rw[W];cases s.drop (a+9)<;>rfl
    exact fin 0 0 10 _ _ (aa Q) rfl
 ·have g1:p < 0:=by simpa using g
  exact fin 0 0 2 _ _ (by rw[getI,if_pos (.inl g1)]) rfl
theorem EG(F:Fz)(s:List UInt8)(p:Int)(E:s.length<=1000000000000000000)(D:i64 p):
  Fo prog F 83 [.va (.str s),.va (.int .i64 p)] (fun o m=>o=.ret (.tup [.va (.str (getS s p).1),.va (.int .i64 (getS s p).2.1),.va (.int .i64 (getS s p).2.2)])/\m=F):=by
 have fin:∀(n:List UInt8) (x e:Int) (h:Hp) (nx:Nat),getS s p=(n,x,e)->lget h 0=some (.frz F)->
   Cln 1 (FoK F fun o m=>o=.ret (.tup [.va (.str (getS s p).1),.va (.int .i64 (getS s p).2.1),.va (.int .i64 (getS s p).2.2)])/\m=F) (.ret (.tup [.va (.str n),.va (.int .i64 x),.va (.int .i64 e)])) h nx:=by
  intro n x e h nx G j;exact endFo (.ret (.tup [.va (.str n),.va (.int .i64 x),.va (.int .i64 e)])) F j (Fz.r F) (Fz.r F) ⟨by rw[G],rfl⟩ (aO _) rfl
 have B:=so F s p E D;have c:=@e8 s p;have b:∀n x e,getI s p=(n,x,e)->getS s p=if e≠0 then([],0,e)else if n < 0\/65536 < n\/(s.length:Int) - x < n then([],0,10)else((s.take (x+n).toNat).drop x.toNat,x+n,0):=fun n x e h=>by rw[getS,h]
 obtain⟨n,x,e,A⟩:∃n x e,getI s p=(n,x,e):=⟨_,_,_,rfl⟩
 have b:=b n x e A;rw[A]at B c;replace c:e=0->0<=p/\p < x/\x<=s.length/\ -4611686018427387903<=n/\n<=4611686018427387903:=c;refine foS func83 ?_;refine usePs (B) ?_;refine br (fun g=>?_) (fun g=>?_)
 ·have l:e≠0:=by simpa using g
  exact fin [] 0 e _ _ (by rw[b,if_pos l]) rfl
 ·have l:e=0:=by simpa using g
  have hb:=c l;have a:getS s p=if n < 0\/65536 < n\/(s.length:Int) - x < n then([],0,10)else((s.take (x+n).toNat).drop x.toNat,x+n,0):=by rw[b,if_neg (by simp[l])]
  have y:IntKind.i64.wrap ((s.length:Int) - x)=s.length - x:=aF oo oo;refine⟨fun q=>?_,fun q=>?_⟩
  ·have d:¬n < 0:=oe q;refine⟨fun u=>?_,fun u=>?_⟩
   ·have f:¬65536 < n:=oe u;refine br (fun w=>?_) (fun w=>?_)
    ·have i:(s.length:Int) - x < n:=by have j:=od w;rw[<-y];exact j
     exact fin [] 0 10 _ _ (by rw[a,if_pos (.inr (.inr i))]) rfl
    ·have i:¬(s.length:Int) - x < n:=by have j:=oe w;rw[<-y];exact j
     have k:IntKind.i64.wrap (x+n)=x+n:=aF oo oo;refine⟨⟨by dsimp only;rw[k];omega,by dsimp only;rw[k];omega⟩,⟨by dsimp only;omega,by dsimp only;rw[k];omega⟩,?_⟩;refine fin _ _ 0 _ _ ?_ rfl;rw[a,if_neg oo,k]
   ·have f:65536 < n:=od u;exact fin [] 0 10 _ _ (by rw[a,if_pos (.inr (.inl f))]) rfl
  ·have d:n < 0:=od q;exact fin [] 0 10 _ _ (by rw[a,if_pos (.inl d)]) rfl
