import Derived.Test.YtfnkamphhpldcaaGreatDoorK43
import Derived.Test.YtfnkamphhpldcaaGreatDoorK26
import Derived.Test.YtfnkamphhpldcaaGreatDoorK42
set_option maxHeartbeats 64000000
namespace Go.Proofs.YtfnkamphhpldcaaGreatDoor
open Go Sx Tryz
def idxH(W k:Nat):Nat:=k / W / 2*((W+1) / 2)+k % W / 2
theorem vN(W k:Nat)(b:UInt8)(r o:List UInt8):halB W k (b::r) o=halB W (k+1) r (if b=49 then o.set (idxH W k) 49 else o):=rfl
theorem xp(W:Nat):∀(l:List UInt8) (k:Nat) (o:List UInt8) (j:Nat),j < o.length->(o[j]? =some 49\/∃i,l[i]? =some 49/\idxH W (k+i)=j)->(halB W k l o)[j]? =some 49
 |[],k,o,j,hj,h=>by
  rcases h with h | ⟨i,h,_⟩
  ·exact h
  ·simp at h
 |b::r,k,o,j,hj,h=>by
  rw[vN];refine xp W r (k+1) _ j (by split<;>simp[hj]) ?_;rcases h with h | ⟨i,h,c⟩
  ·left;split
   ·rw[qbf];split
    ·rename_i e;rw[if_pos (by rw[e];exact hj)]
    ·exact h
   ·exact h
  ·cases i with
   |zero=>
    left;simp at h;have a:idxH W k=j:=by simpa using c
    rw[if_pos h,qbf,if_pos a,if_pos (by rw[a];exact hj)]
   |succ i=>
    right;exact⟨i,by simpa using h,by rw[<-c];congr 1;omega⟩
theorem rC(W:Nat):∀(l:List UInt8) (k:Nat) (o:List UInt8) (j:Nat),(∀i,l[i]? =some 49->idxH W (k+i)≠j)->(halB W k l o)[j]? =o[j]?
 |[],k,o,j,h=>rfl
 |b::r,k,o,j,h=>by
  rw[vN,rC W r (k+1) _ j (fun i c=>by
   have:=h (i+1) (by simpa using c);intro a;apply this;rw[<-a];congr 1;omega)]
  split
  ·rename_i hb;rw[qbf,if_neg];have:=h 0 (by simp[hb]);simpa using this
  ·rfl
def hb(W H:Nat)(bits:List UInt8)(i k:Nat):Bool:=decide (i < H)&&(decide (k < W)&&decide (bits[i*W+k]? =some 49))
def hb4(W H:Nat)(bits:List UInt8)(r c:Nat):Bool:=hb W H bits (2*r) (2*c)||(hb W H bits (2*r) (2*c+1)||(hb W H bits (2*r+1) (2*c)||hb W H bits (2*r+1) (2*c+1)))
def ep(W H:Nat)(bits:List UInt8)(r c:Nat):UInt8:=if hb4 W H bits r c=true then 49 else 48
def jD(W H:Nat)(bits:List UInt8)(r:Nat):List UInt8:=(List.range ((W+1) / 2)).map (ep W H bits r)
def fA(W H:Nat)(bits:List UInt8):List UInt8:=((List.range ((H+1) / 2)).map (jD W H bits)).flatten
variable {bits:List UInt8}
theorem hb_iff{W H:Nat}{i k:Nat}:hb W H bits i k=true↔i < H/\k < W/\bits[i*W+k]? =some 49:=by
 unfold hb;simp
theorem no{W i k:Nat}(h:k < W):(i*W+k) / W=i/\(i*W+k) % W=k:=by
 have a:0 < W:=by omega
 constructor
 ·rw[qb5,Nat.add_mul_div_right _ _ a,Nat.div_eq_of_lt h,qz]
 ·rw[qb5,Nat.add_mul_mod_self_right,ju h]
theorem ydf{W H:Nat}(q:bits.length=W*H){r c:Nat}(p:c < (W+1) / 2):
  hb4 W H bits r c=true↔∃n,bits[n]? =some 49/\idxH W n=r*((W+1) / 2)+c:=by
 unfold hb4;simp only[qai,hb_iff];constructor
 ·intro h
  have fin:∀i k,i < H->k < W->bits[i*W+k]? =some 49->i / 2=r->k / 2=c->∃n,bits[n]? =some 49/\idxH W n=r*((W+1) / 2)+c:=fun i k h1 a b l m=>
   ⟨i*W+k,b,by unfold idxH;rw[(no a).1,(no a).2,l,m]⟩
  rcases h with h | h | h | h
  ·exact fin _ _ h.1 h.2.1 h.2.2 oo oo
  ·exact fin _ _ h.1 h.2.1 h.2.2 oo oo
  ·exact fin _ _ h.1 h.2.1 h.2.2 oo oo
  ·exact fin _ _ h.1 h.2.1 h.2.2 oo oo
 ·rintro⟨n,d,f⟩;have e:n < W*H:=by rw[<-q];exact(qh.1 d).1
  have o:0 < W:=by
   rcases qbo W with h | h
   ·rw[h,qdp]at e;omega
   ·exact h
  have h1:n / W < H:=qb2 e;have a:n % W < W:=qa1 _ o;have b:n / W*W+n % W=n:=by rw[qae];exact qdu n W
  unfold idxH at f;have s:n % W / 2 < (W+1) / 2:=by omega
  obtain⟨g,j⟩:=no (i:=n / W / 2) s;obtain⟨f1,f2⟩:=no (i:=r) p;have u:n / W / 2=r:=by rw[<-g,f,f1]
  have w:n % W / 2=c:=by rw[<-j,f,f2]
  have hi:n / W=2*r\/n / W=2*r+1:=by omega
  have hk:n % W=2*c\/n % W=2*c+1:=by omega
  rcases hi with hi | hi<;>rcases hk with hk | hk<;>rw[hi,hk]at b<;>rw[hi]at h1<;>rw[hk]at a
  ·exact .inl ⟨h1,a,by rw[b];exact d⟩
  ·exact .inr (.inl ⟨h1,a,by rw[b];exact d⟩)
  ·exact .inr (.inr (.inl ⟨h1,a,by rw[b];exact d⟩))
  ·exact .inr (.inr (.inr ⟨h1,a,by rw[b];exact d⟩))
theorem flat_get{w:Nat}(f:Nat->List UInt8)(g:∀r,(f r).length=w):∀(h:Nat) (r c:Nat),c < w->r < h->((List.range h).map f).flatten[r*w+c]? =(f r)[c]?:=by
 intro h
 induction h with
 |zero=>intro r c _ d;omega
 |succ h ih=>
  intro r c e d
  have a:((List.range h).map f).flatten.length=h*w:=by
   clear ih d
   induction h with
   |zero=>simp
   |succ h ih=>rw[qay,qq,yi,qb,ih];simp[g,qa2]
  rw[qay,qq,yi];by_cases b:r < h
  ·rw[jj,ih r c e b];rw[a];have:(r+1)*w<=h*w:=qaa _ b;rw[qa2]at this;omega
  ·have:r=h:=by omega
   subst this;rw[jq (by rw[a];omega),a];simp
theorem Ep(W H:Nat)(bits:List UInt8):(fA W H bits).length=(W+1) / 2*((H+1) / 2):=by
 unfold fA;rw[qae];generalize(H+1) / 2=h
 induction h with
 |zero=>simp
 |succ h ih=>rw[qay,qq,yi,qb,ih,qa2];simp[jD]
theorem zQ{W H:Nat}(l:bits.length=W*H):halB W 0 bits (List.replicate ((W+1) / 2*((H+1) / 2)) 48)=fA W H bits:=by
 apply qbe;intro j;have c:=pE W bits 0 (List.replicate ((W+1) / 2*((H+1) / 2)) 48);rw[qaz]at c;by_cases e:j < (W+1) / 2*((H+1) / 2)
 ·have p:0 < (W+1) / 2:=by
   rcases qbo ((W+1) / 2)with h | h
   ·rw[h,qdp]at e;omega
   ·exact h
  have o:j / ((W+1) / 2) < (H+1) / 2:=qb2 e;have f:j % ((W+1) / 2) < (W+1) / 2:=qa1 _ p;have b:j / ((W+1) / 2)*((W+1) / 2)+j % ((W+1) / 2)=j:=by rw[qae];exact qdu j _
  have g:(fA W H bits)[j]? =some (ep W H bits (j / ((W+1) / 2)) (j % ((W+1) / 2))):=by
   conv=>lhs;rw[<-b]
   unfold fA;rw[flat_get (w:=(W+1) / 2) _ (fun r=>by simp[jD]) _ _ _ f o,jD,qu,qd3 f];rfl
  rw[g];have a:=ydf (bits:=bits) (r:=j / ((W+1) / 2)) l f;rw[b]at a;by_cases hb:hb4 W H bits (j / ((W+1) / 2)) (j % ((W+1) / 2))=true
  ·obtain⟨n,m,d⟩:=a.1 hb;rw[xp W bits 0 _ j (by rw[qaz];exact e) (.inr ⟨n,m,by rw[qz];exact d⟩),ep,if_pos hb]
  ·rw[rC W bits 0 _ j (fun i k d=>hb (a.2 ⟨i,k,by rw[qz]at d;exact d⟩)),ep,if_neg hb,List.getElem?_replicate,if_pos e]
 ·rw[qad oo,qad (by rw[Ep];omega)]
def eG(x:Stp)(y:RLn):RLn:=
 if x.1=1 then(Lib.toLowerA y.1,y.2)else if x.1=2 then(spc false y.1,y.2)
 else if x.1=3 then(y.1,y.2.1,y.2.2.1,y.2.2.2.1.tdiv x.2*x.2,y.2.2.2.2)
 else if x.1=4 then(y.1,(if y.2.1>x.2 then 0 else y.2.1),y.2.2)else y
def lostR:RVal:=⟨true,[],0,0,[]⟩
def halRV(v:RVal):RVal:=⟨false,[],(v.w+1) / 2,(v.h+1) / 2,if v.bits=[]then []else fA v.w.toNat v.h.toNat v.bits⟩
def stepR(x:Stp)(v:RVal):RVal:=if v.lost=true\/x.1=6 then lostR else if x.1=5 then halRV v else⟨false,v.lines.map (eG x),0,0,[]⟩
def runR(l:List Stp)(v:RVal):RVal:=l.foldl (fun v x=>stepR x v) v
def eo(p:Int)(l:List Stp)(s:List UInt8):List UInt8×Int:=
 if aM p l=true then match readR p s with
  |none=>([],70)
  |some v=>(dI p (runR l v),0)
 else([],70)
theorem su(z n:Int):z - z.tmod n=z.tdiv n*n:=by
 have h:=Int.tmod_def z n;rw[Int.mul_comm]at h;omega
theorem CJ{p:Int}{x:Stp}(g:1<=p/\p<=8)(c:aS p x=true)(d:x.1≠5)(e:x.1≠6)(y:RLn):
  ofR p (eG x y)=(if x.1=1 then foldL (ofR p y)else if x.1=2 then cU (ofR p y)else if x.1=3 then eW x.2 (ofR p y)else limL x.2 (ofR p y)):=by
 obtain⟨k,n⟩:=x;obtain⟨t,n0,b,a,i⟩:=y;rcases dE g c with⟨rfl,rfl,rfl⟩ | ⟨rfl,rfl,rfl⟩ | ⟨rfl,h,f⟩ | ⟨rfl,rfl,f⟩ | ⟨rfl,h,rfl⟩ | ⟨rfl,rfl⟩
 ·rfl
 ·show((spc false t,[]):Ln)=(spS t.length t,[]);rw[sH _ _ (qj _)]
 ·rcases h with rfl | rfl
  ·show(([],[n0,b,a.tdiv n*n]):Ln)=([],[n0,b,a - a.tmod n]);rw[su]
  ·show(([],[n0,b,a.tdiv n*n]):Ln)=([],[n0,b,a - a.tmod n]);rw[su]
 ·rfl
 ·exact absurd rfl d
 ·exact absurd rfl e
theorem CK(p:Int):ofV p lostR=loseV:=rfl
theorem sI{p:Int}{x:Stp}{v:RVal}(u:1<=p/\p<=8)(b:aS p x=true)(G:VOK p (ofV p v))(q:v.lost=false):ofV p (stepR x v)=stepS x (ofV p v):=by
 have E:=b;by_cases j:x.1=6
 ·rw[stepR,if_pos (.inr j),CK];unfold stepS;rw[if_neg oo,if_neg oo,if_neg oo,if_neg oo,if_neg oo]
 have D:¬(v.lost=true\/x.1=6):=by
  rintro(h | h)
  ·rw[q]at h;cases h
  ·exact j h
 by_cases a:x.1=5
 ·rw[stepR,if_neg D,if_pos a];unfold stepS;rw[if_neg oo,if_neg oo,if_neg oo,if_neg oo,if_pos a]
  have c:p=6\/p=7:=by
   obtain⟨k,n⟩:=x;rcases dE u b with⟨rfl,rfl,rfl⟩ | ⟨rfl,rfl,rfl⟩ | ⟨rfl,h,l⟩ | ⟨rfl,rfl,l⟩ | ⟨rfl,h,rfl⟩ | ⟨rfl,rfl⟩
   ·exact absurd a (by show¬(1:Int)=5;decide)
   ·exact absurd a (by show¬(2:Int)=5;decide)
   ·exact absurd a (by show¬(3:Int)=5;decide)
   ·exact absurd a (by show¬(4:Int)=5;decide)
   ·exact h
   ·exact absurd a (by show¬(6:Int)=5;decide)
  obtain⟨h1,d,g,o⟩:=fY G q c;replace d:0<=v.w/\v.w<=32:=d;replace g:min v.w 1<=v.h/\v.h<=min v.w 1*32:=g;show Val.mk false [] ((v.w+1) / 2) ((v.h+1) / 2) (if v.bits=[]then []else fA v.w.toNat v.h.toNat v.bits)=Val.mk false [] ((v.w+1) / 2) ((v.h+1) / 2) (if v.bits=[]then []else halB v.w.toNat 0 v.bits (List.replicate ((v.w.toNat+1) / 2*((v.h.toNat+1) / 2)) 48));by_cases hb:v.bits=[]
  ·rw[if_pos hb,if_pos hb]
  ·rw[if_neg hb,if_neg hb,zQ];rcases c with K | h7
   ·rw[if_neg oo]at o;exact absurd o hb
   ·rw[if_pos h7]at o;have L:(v.bits.length:Int)=v.w*v.h:=o.1;have I:(v.w.toNat:Int)=v.w:=qaw d.1;have J:(v.h.toNat:Int)=v.h:=qaw oo;have:((v.bits.length:Nat):Int)=((v.w.toNat*v.h.toNat:Nat):Int):=by rw[L,qa5,I,J]
    exact Int.ofNat.inj this
 ·rw[stepR,if_neg D,if_neg a]
  have B:p<=5:=by
   obtain⟨k,n⟩:=x;rcases dE u b with⟨rfl,rfl,rfl⟩ | ⟨rfl,rfl,rfl⟩ | ⟨rfl,h,l⟩ | ⟨rfl,rfl,l⟩ | ⟨rfl,h,rfl⟩ | ⟨rfl,rfl⟩
   ·omega
   ·omega
   ·omega
   ·omega
   ·exact absurd rfl a
   ·exact absurd rfl j
  obtain⟨h1,d,g,_,_⟩:=fV G q B;replace h1:v.w=0:=h1;replace d:v.h=0:=d;replace g:v.bits=[]:=g
  have s:∀f:Ln->Ln,(∀y,ofR p (eG x y)=f (ofR p y))->ofV p ⟨false,v.lines.map (eG x),0,0,[]⟩={ ofV p v with lines:=(ofV p v).lines.map f }:=fun f M=>by
   show Val.mk false ((v.lines.map (eG x)).map (ofR p)) 0 0 []=Val.mk v.lost ((v.lines.map (ofR p)).map f) v.w v.h v.bits;rw[q,h1,d,g,q8,q8]
   congr 1
   exact qy fun y _=>M y
  have A:=CJ u b a j;unfold stepS;by_cases e:x.1=1
  ·rw[if_pos e];exact s _ fun y=>by rw[A,if_pos e]
  rw[if_neg e];by_cases i:x.1=2
  ·rw[if_pos i];exact s _ fun y=>by rw[A,if_neg e,if_pos i]
  rw[if_neg i];by_cases m:x.1=3
  ·rw[if_pos m];exact s _ fun y=>by rw[A,if_neg e,if_neg i,if_pos m]
  rw[if_neg m]
  have O:x.1=4:=by
   obtain⟨k,n⟩:=x;rcases dE u b with⟨rfl,rfl,rfl⟩ | ⟨rfl,rfl,rfl⟩ | ⟨rfl,h,l⟩ | ⟨rfl,rfl,l⟩ | ⟨rfl,h,rfl⟩ | ⟨rfl,rfl⟩
   ·exact absurd rfl e
   ·exact absurd rfl i
   ·exact absurd rfl m
   ·rfl
   ·exact absurd rfl a
   ·exact absurd rfl j
  rw[if_pos O];exact s _ fun y=>by rw[A,if_neg e,if_neg i,if_neg m]
theorem nX{p:Int}(c:1<=p/\p<=8):∀(l:List Stp) (v:RVal),(∀x∈l,aS p x=true)->VOK p (ofV p v)->ofV p (runR l v)=runS l (ofV p v)
 |[],_,_,_=>rfl
 |x::r,v,hok,hv=>by
  have h:=hok x ss;show ofV p (runR r (stepR x v))=runS r (if(ofV p v).lost=true then ofV p v else stepS x (ofV p v));have g:(ofV p v).lost=v.lost:=rfl;by_cases a:v.lost=true
  ·have e:ofV p v=loseV:=ko hv a;have i:stepR x v=lostR:=if_pos (.inl a);rw[if_pos (g.trans a),i,nX c r lostR (fun y f=>hok y (by simp[f])) (.inl rfl),e];rfl
  ·have b:v.lost=false:=by simpa using a
   rw[if_neg (by rw[g];exact a)];have e:=sI c h hv b;have d:VOK p (ofV p (stepR x v)):=by rw[e];exact po c h hv b
   rw[nX c r _ (fun y f=>hok y (by simp[f])) d,e]
theorem Eu(p:Int)(l:List Stp)(s:List UInt8):eo p l s=cQ p l s:=by
 unfold eo cQ;by_cases a:aM p l=true
 ·rw[if_pos a,if_pos a];have h:=r8 p s;cases c:readR p s with
  |none=>
   rw[c]at h;rw[<-h];rfl
  |some v=>
   rw[c]at h;rw[<-h];have b:=mq h.symm;show(dI p (runR l v),(0:Int))=(bE p (runS l (ofV p v)),0);rw[EI,nX b.1 l v (fv a) b.2]
 ·rw[if_neg a,if_neg a]
end Go.Proofs.YtfnkamphhpldcaaGreatDoor
namespace Go.Proofs.YtfnkamphhpldcaaGreatDoor
open Go Sx Tryz
set_option maxRecDepth 100000
abbrev ij(x:Stp)(v:RVal):Out->Fz->Prop:=fun o b=>∃a,o=.ret (.agg (rvS (stepR x v) a))/\Its b a (stepR x v).lines
theorem kB{F F1:Fz}{x:Stp}{v r:RVal}{h:Hp}{nx:Nat}(d:stepR x v=r)(c:r.lines=[])(b:lget h 0=some (.frz F1))(a:Fz.le F F1):
  Cln 1 (FoK F (ij x v)) (.ret (.agg (rvS r .nilsl))) h nx:=by
 subst d;exact endFo (.ret (.agg (rvS (stepR x v) .nilsl))) F1 b a (Fz.r F1) ⟨_,rfl,by rw[c];exact Its.nil⟩ (aO _) rfl
theorem kj{α β:Type}{f:α->β}{l:List α}{k:Nat}{o:List β}{y:α}{z:β}(g:k < l.length)(a:l[k]=y)(b:f y=z)(h:o=(l.take k).map f):o++[z]=(l.take (k+1)).map f:=by
 rw[qe g,qq,h,a];simp[b]
variable {bits:List UInt8}{i n:Nat}
theorem EH{μ:Mu}{j c:Nat}{L:List RLn}{x:RLn}{w h:Int}(a:μ i 0=(j,0))(b:n=L.length+1):SB.cells 110 [.lit false,.slice false j 0 0 5 n c,.int .i64 w,.int .i64 h,.str bits]=SB.ren μ (.cells 110 [.lit false,gA 5 i c (L++[x]),.int .i64 w,.int .i64 h,.str bits]):=uL a b
def stpE(x:Stp):Ent:=.one (.cells 56 (enc x))
theorem uP(x:Stp):(stpE x).below n:=(SB.bB_ok rfl:SB.below n (.cells 56 (enc x)))
theorem yag{z n:Int}(a:n=10\/n=100\/n=1000)(b:i64 z):IntKind.i64.wrap (IntKind.i64.wrap (z.tdiv n)*n)=z.tdiv n*n:=by
 have h1:-9223372036854775808<=z.tdiv n*n/\z.tdiv n*n<=9223372036854775807/\ -9223372036854775808<=z.tdiv n/\z.tdiv n<=9223372036854775807:=by
  unfold i64 at b;by_cases h:0<=z
  ·rw[jo h];rcases a with rfl | rfl | rfl<;>omega
  ·have e:z.tdiv n= -((-z).tdiv n):=by rw[qd6];omega
   rw[e,jo oo];rcases a with rfl | rfl | rfl<;>omega
 rw[aF h1.2.2.1 h1.2.2.2,aF h1.1 h1.2.1]
theorem lO(F:Fz)(p q a:Int)(U:q=1\/q=2\/q=3\/q=4)(L:List RLn)(w h:Int)(bits:List UInt8)(b e c:Nat)(X:List (List SA))(Y:Nat)(hn:q=3->a=10\/a=100\/a=1000)(Z:F b=some (.arr 191 5 X Y))(O:(X.drop e).take L.length=L.map encL)(hl:L.length<=64)(hx:∀x∈L,x.1.length<=80/\(q=3->i64 x.2.2.2.1)):
  Fo prog F 55 [.va (.int .i64 p),.agg (enc (q,a)),.agg (rvS ⟨false,L,w,h,bits⟩ (sl0 b e L.length c))] (ij (q,a) ⟨false,L,w,h,bits⟩):=by
 have h6:¬q=6:=by omega
 have h5:¬q=5:=by omega
 have M:stepR (q,a) ⟨false,L,w,h,bits⟩=⟨false,L.map (eG (q,a)),0,0,[]⟩:=by rcases U with rfl | rfl | rfl | rfl<;>rfl
 refine foS func55 ?_;refine brj h6 ?_;refine brj h5 ?_;conv=>whnf
 refine aI hΘ (X:={ y:Nat×List RLn×Nat // y.1<=L.length/\y.2.1=(L.take y.1).map (eG (q,a)) }) (fun y=>[(8,.va (.int .i64 y.1.1))]) (9::jr 24 55 [])
  (fun y=>[(0,.frz F),(1,stpE (q,a)),(2,rvSE ⟨false,L,w,h,bits⟩ b e L.length c),(3,rvalE ⟨false,[],0,0,[]⟩ 0 0),(4,rvalE ⟨false,y.1.2.1,0,0,[]⟩ 5 y.1.2.2),(5,gE 191 5 encL y.1.2.2 y.1.2.1)]) 6 (fun y=>L.length - y.1.1) ⟨(0,[],0),by simp⟩
  (fun hH hT=>leI [(5,5)] hH hT rfl ⟨tv,uP _,jT,cK oo _,cK oo _,aC di _ _ _ _ _,tv⟩ ⟨rfl,tv⟩ ⟨Fz.r F,rfl,rfl,rfl,rfl,rfl,tv⟩) ?_
 rintro⟨⟨k,o,co⟩,hk,j⟩ hH hT;replace hk:k<=L.length:=hk;replace j:o=(L.take k).map (eG (q,a)):=j;have T:o.length=k:=by rw[j,qa,qn];omega
 by_cases G:k < L.length
 ·have aa:∃x,L[k]=x:=⟨_,rfl⟩
  obtain⟨⟨t,n0,D,A,E⟩,i⟩:=aa;have d:X[e+(k:Int).toNat]? =some (encL (t,n0,D,A,E)):=by rw[<-i];exact Sl.at O G
  have B:(k:Int) < (L.length:Nat):=by omega
  have s:0<=(k:Int)/\(k:Int) < (L.length:Nat):=by omega
  have ht:=hx _ (qt G);rw[i]at ht;obtain⟨W,m⟩:=ht;replace W:t.length<=80:=W;replace m:q=3->i64 A:=m;have ac:k+1<=L.length:=G;have Q:L.length - (k+1) < L.length - k:=by omega
  have S:k < 4611686018427387904:=by omega
  have V:∀n,n=k->(n+1)*48<=140737488355328:=fun n h=>by omega
  clear M hx O;rcases U with rfl | rfl | rfl | rfl
  case' inl=>
   have J:=yaf F t oo;have u:=kj (f:=eG (1,a)) G i (z:=(t.map foldB,n0,D,A,E)) (by show(Lib.toLowerA t,n0,D,A,E)=_;rw[Em]) j;clear j m;rcases o with _ | ⟨K,I⟩
   all_goals
    refine bri B ⟨rfl,s,_,Z,_,d,?_⟩;refine br (fun _=>?_) (fun g=>absurd (show(1:Int)=1 from rfl) (oe g));refine usePt J ?_;conv=>whnf
  case' inr.inl=>
   have ag:=EF F t oo;have u:=kj (f:=eG (2,a)) G i (z:=(spc false t,n0,D,A,E)) rfl j;clear j m;rcases o with _ | ⟨K,I⟩
   all_goals
    refine bri B ⟨rfl,s,_,Z,_,d,?_⟩;refine br (fun g=>absurd (od g) (show¬(2:Int)=1 by decide)) (fun _=>?_);refine br (fun _=>?_) (fun g=>absurd (show(2:Int)=2 from rfl) (oe g));refine usePt ag ?_;conv=>whnf
  case' inr.inr.inl=>
   have hn:=hn rfl;have af:a≠0:=by omega
   have u:=kj (f:=eG (3,a)) G i (z:=(t,n0,D,IntKind.i64.wrap (IntKind.i64.wrap (A.tdiv a)*a),E)) (by rw[yag hn (m rfl)];rfl) j;clear j m;rcases o with _ | ⟨K,I⟩
   all_goals
    refine bri B ⟨rfl,s,_,Z,_,d,?_⟩;refine br (fun g=>absurd (od g) (show¬(3:Int)=1 by decide)) (fun _=>?_);refine br (fun g=>absurd (od g) (show¬(3:Int)=2 by decide)) (fun _=>?_);refine br (fun _=>?_) (fun g=>absurd (show(3:Int)=3 from rfl) (oe g));refine dwS (lk [0,1,3,4,6,7,9] (.alt 2 (lk [5,8,10] (.alt 11 .done .nil)) .nil)) [1] ?_;conv=>whnf
    repeat' ((conv=>whnf);first
     |refine⟨rfl,?_⟩
     |refine⟨Fz.r _,rfl,?_⟩
     |refine⟨Fz.r _,rfl,rfl,?_⟩
     |refine⟨⟨by simp,by simp⟩,?_⟩
     |fail)
    refine⟨af,⟨by decide,by decide⟩,Fz.r F,rfl,?_⟩;conv=>whnf
  case' inr.inr.inr=>
   have ab:n0>a\/¬n0>a:=Classical.em _;rcases ab with hgt | hgt
   case' inl=>have u:=kj (f:=eG (4,a)) G i (z:=(t,0,D,A,E)) (by show(t,(if n0>a then 0 else n0),D,A,E)=_;rw[if_pos hgt]) j
   case' inr=>have u:=kj (f:=eG (4,a)) G i (z:=(t,n0,D,A,E)) (by show(t,(if n0>a then 0 else n0),D,A,E)=_;rw[if_neg hgt]) j
   all_goals
    clear j m;rcases o with _ | ⟨K,I⟩
   all_goals
    refine bri B ⟨rfl,s,_,Z,_,d,?_⟩;refine br (fun g=>absurd (od g) (show¬(4:Int)=1 by decide)) (fun _=>?_);refine br (fun g=>absurd (od g) (show¬(4:Int)=2 by decide)) (fun _=>?_);refine br (fun g=>absurd (od g) (show¬(4:Int)=3 by decide)) (fun _=>?_);refine br (fun _=>?_) (fun g=>absurd (show(4:Int)=4 from rfl) (oe g));conv=>whnf
    refine⟨⟨by decide,by decide⟩,?_⟩;conv=>whnf
    first
     |(refine bri hgt ?_;(conv=>whnf);refine⟨⟨by decide,by decide⟩,?_⟩)
     |refine brj hgt ?_
    conv=>whnf
  all_goals
   refine⟨nb rfl,[[_,_,_,_,_]],rfl,?_⟩;conv=>whnf
   first
    |refine⟨rfl,rfl,by simp,rfl,V _ T,fun c' hc=>?_⟩
    |(refine⟨rfl,rfl,?_⟩;(conv=>whnf);refine⟨by show 1*48<=140737488355328;omega,fun c' hc=>?_⟩)
   exact⟨⟨(k+1,_++[_],c'),ac,u⟩,Q,leR [(5,8)] hH hT rfl ⟨tv,uP _,jT,cK oo _,cK oo _,aC di _ _ _ _ _,tv⟩ ⟨cnt S,tv⟩ ⟨Fz.r F,rfl,rfl,rfl,EH (μ:=sig [(5,8)]) rfl rfl,aH di (bC _ (by simp[encL])),tv⟩⟩
 ·have R:¬(k:Int) < (L.length:Nat):=by omega
  have ad:k=L.length:=by omega
  rw[ad,qk (qj _)]at j;rw[<-j]at M;clear j T;rcases o with _ | ⟨K,I⟩
  ·refine brj R ?_;exact kB M rfl rfl (Fz.r F)
  ·refine brj R ?_;refine cu 5 (fun _=>.arr 191 5 ((K::I).map encL) co) rfl rfl rfl (fun _ _=>by exact cI di rfl _ _ _ _) (fun _ _=>bX di _ _ _ _ _) ?_;intro b' F' ae hb;exact endFo (.ret (.agg (rvS ⟨false,K::I,0,0,[]⟩ (.slice false 0 (b' 0) 0 5 (I.length+1) co)))) F' rfl ae (Fz.r F') ⟨_,by rw[M],by rw[M];exact Its.new (l:=K::I) (hb 0 ⟨rfl,rfl⟩)⟩ rfl rfl
theorem lP(F:Fz)(p q b:Int)(a:q=1\/q=2\/q=3\/q=4)(w h:Int)(bits:List UInt8):
  Fo prog F 55 [.va (.int .i64 p),.agg (enc (q,b)),.agg (rvS ⟨false,[],w,h,bits⟩ .nilsl)] (ij (q,b) ⟨false,[],w,h,bits⟩):=by
 have d:¬q=6:=by omega
 have c:¬q=5:=by omega
 have e:stepR (q,b) ⟨false,[],w,h,bits⟩=⟨false,[],0,0,[]⟩:=by rcases a with rfl | rfl | rfl | rfl<;>rfl
 refine foS func55 ?_;refine brj d ?_;refine brj c ?_;conv=>whnf
 refine cR hΘ 0 ?_;refine brd dd ?_;exact kB e rfl rfl (Fz.r F)
theorem Db(F:Fz)(p:Int)(x:Stp)(w h:Int)(bits:List UInt8)(b:List RLn)(a:SA):
  Fo prog F 55 [.va (.int .i64 p),.agg (enc x),.agg (rvS ⟨true,b,w,h,bits⟩ a)] (ij x ⟨true,b,w,h,bits⟩):=by
 have c:stepR x ⟨true,b,w,h,bits⟩=lostR:=if_pos (.inl rfl);refine foS func55 ?_;exact kB c rfl rfl (Fz.r F)
theorem AO(F:Fz)(p c:Int)(w h:Int)(bits:List UInt8)(b:List RLn)(a:SA):
  Fo prog F 55 [.va (.int .i64 p),.agg (enc (6,c)),.agg (rvS ⟨false,b,w,h,bits⟩ a)] (ij (6,c) ⟨false,b,w,h,bits⟩):=by
 have d:stepR (6,c) ⟨false,b,w,h,bits⟩=lostR:=if_pos (.inr rfl);refine foS func55 ?_;refine br (fun _=>?_) (fun g=>absurd (show(6:Int)=6 from rfl) (oe g));exact kB d rfl rfl (Fz.r F)
def hbT(W H:Nat)(bits:List UInt8)(r c:Nat)(i:Nat):Bool:=hb W H bits (2*r+i / 2) (2*c+i % 2)
def bitT(W H:Nat)(bits:List UInt8)(r c:Nat):Nat->UInt8
 |0=>48
 |i+1=>if hbT W H bits r c i=true then 49 else bitT W H bits r c i
theorem bitT4(W H:Nat)(bits:List UInt8)(r c:Nat):bitT W H bits r c 4=ep W H bits r c:=by
 unfold ep hb4;show(if hb W H bits (2*r+1) (2*c+1)=true then 49 else if hb W H bits (2*r+1) (2*c+0)=true then 49 else if hb W H bits (2*r+0) (2*c+1)=true then 49 else if hb W H bits (2*r+0) (2*c+0)=true then 49 else(48:UInt8))=_;simp only[qau];cases hb W H bits (2*r) (2*c)<;>cases hb W H bits (2*r) (2*c+1)<;>cases hb W H bits (2*r+1) (2*c)<;>cases hb W H bits (2*r+1) (2*c+1)<;>rfl
abbrev pr2(x y:Int):List SA:=[.int .i64 x,.int .i64 y]
abbrev rows4:List (List SA):=[pr2 0 0,pr2 0 1,pr2 1 0,pr2 1 1]
theorem yai(h:i < 4):rows4[0+(i:Int).toNat]? =some (pr2 (i / 2:Nat) (i % 2:Nat)):=by
 have a:i=0\/i=1\/i=2\/i=3:=by omega
 rcases a with rfl | rfl | rfl | rfl<;>rfl
theorem jM:(Ent.one (.arr 24 2 rows4 4)).below n:=(SB.bB_ok rfl:SB.below n (.arr 24 2 rows4 4))
def rowsT(W H:Nat)(bits:List UInt8)(r:Nat):List UInt8:=((List.range r).map (jD W H bits)).flatten
theorem uJ(W H:Nat)(bits:List UInt8)(r:Nat):rowsT W H bits (r+1)=rowsT W H bits r++(List.range ((W+1) / 2)).map (ep W H bits r):=by
 unfold rowsT;rw[qay,qq,yi];simp[jD]
theorem vU(W H:Nat)(bits:List UInt8)(r:Nat):(rowsT W H bits r).length=r*((W+1) / 2):=by
 induction r with
 |zero=>simp[rowsT]
 |succ r ih=>rw[uJ,qb,ih,qa2];simp
theorem DH(W H:Nat)(bits:List UInt8)(r c:Nat):(List.range c).map (ep W H bits r)++[ep W H bits r c]=(List.range (c+1)).map (ep W H bits r):=by
 rw[qay,qq];rfl
theorem hb_no{W H:Nat}{k:Nat}(h:¬(i < H/\k < W)):hb W H bits i k=false:=by
 apply Classical.byContradiction;intro b;have a:=hb_iff.1 (by simpa using b);exact h ⟨a.1,a.2.1⟩
theorem lH(h:n<=32):IntKind.i64.wrap ((IntKind.i64.wrap ((n:Int)+1)).tdiv 2)=(((n+1) / 2:Nat):Int):=by
 rw[show IntKind.i64.wrap ((n:Int)+1)=(n:Int)+1 from aF oo oo,jo oo,aF oo oo];omega
theorem xz{r x:Nat}(a:r<=32)(b:x<=1):IntKind.i64.wrap (IntKind.i64.wrap (2*(r:Int))+(x:Int))=((2*r+x:Nat):Int):=by
 rw[show IntKind.i64.wrap (2*(r:Int))=2*(r:Int)from aF oo oo,aF oo oo];omega
theorem yck{k W:Nat}(c:i<=64)(d:k<=64)(b:W<=32):IntKind.i64.wrap (IntKind.i64.wrap ((i:Int)*(W:Int))+(k:Int))=((i*W+k:Nat):Int):=by
 have h1:i*W<=64*32:=qah c b;have a:(i:Int)*(W:Int)=((i*W:Nat):Int):=(qa5 i W).symm;rw[a,show IntKind.i64.wrap ((i*W:Nat):Int)=((i*W:Nat):Int)from aF oo oo,aF oo oo];omega
theorem ygd{k W H:Nat}(a:i < H)(b:k < W):i*W+k < W*H:=by
 have h1:(i+1)*W<=H*W:=qaa W a;rw[qa2,qae H W]at h1;omega
def rawE(W H:Nat)(bits:List UInt8):Ent:=.one (.cells 110 (rvS ⟨false,[],(W:Nat),(H:Nat),bits⟩ .nilsl))
theorem eO{W H:Nat}:(rawE W H bits).below n:=(SB.bB_ok rfl:SB.below n (.cells 110 (rvS ⟨false,[],(W:Nat),(H:Nat),bits⟩ .nilsl)))
theorem nC{F:Fz}{v r:RVal}{h:Hp}{nx:Nat}(c:halRV v=r)(b:lget h 0=some (.frz F)):
  Cln 1 (FoK F fun o a=>o=.ret (.agg (rvS (halRV v) .nilsl))/\a=F) (.ret (.agg (rvS r .nilsl))) h nx:=by
 subst c;exact endPu b (Fz.r F) (aO _) rfl
theorem EB(F:Fz)(W H:Nat)(e:W<=32)(d:H<=32):
  Fo prog F 122 [.agg (rvS ⟨false,[],(W:Nat),(H:Nat),[]⟩ .nilsl)] (fun o c=>o=.ret (.agg (rvS (halRV ⟨false,[],(W:Nat),(H:Nat),[]⟩) .nilsl))/\c=F):=by
 have b:=lH e;have hh:=lH d
 have a:halRV ⟨false,[],(W:Nat),(H:Nat),[]⟩=⟨false,[],IntKind.i64.wrap ((IntKind.i64.wrap ((W:Int)+1)).tdiv 2),IntKind.i64.wrap ((IntKind.i64.wrap ((H:Int)+1)).tdiv 2),[]⟩:=by
  rw[b,hh];show RVal.mk false [] (((W:Nat)+1:Int) / 2) (((H:Nat)+1:Int) / 2) []=_
  congr 1
 clear b hh;refine foS func122 ?_;refine⟨by decide,by decide,?_⟩;conv=>whnf
 refine cR hΘ 0 ?_;refine⟨fun _=>?_,fun _=>?_⟩
 ·refine br (fun g=>absurd g (by show¬(!([]:List UInt8)==[])=true;decide)) (fun _=>?_);exact nC a rfl
 ·exact nC a rfl
theorem EC(F:Fz)(W H:Nat)(bits:List UInt8)(hW:W<=32)(J:H<=32)(an:bits≠[])(al:bits.length=W*H):
  Fo prog F 122 [.agg (rvS ⟨false,[],(W:Nat),(H:Nat),bits⟩ .nilsl)] (fun o F'=>o=.ret (.agg (rvS (halRV ⟨false,[],(W:Nat),(H:Nat),bits⟩) .nilsl))/\F'=F):=by
 have hw:=lH hW;have hh:=lH J;obtain⟨w,I⟩:∃w,(W+1) / 2=w:=⟨_,rfl⟩
 obtain⟨s,ak⟩:∃h,(H+1) / 2=h:=⟨_,rfl⟩
 have ar:w<=16:=by omega
 have a8:s<=16:=by omega
 rw[I]at hw;rw[ak]at hh
 have hr:∀t,t=rowsT W H bits s->halRV ⟨false,[],(W:Nat),(H:Nat),bits⟩=⟨false,[],IntKind.i64.wrap ((IntKind.i64.wrap ((W:Int)+1)).tdiv 2),IntKind.i64.wrap ((IntKind.i64.wrap ((H:Int)+1)).tdiv 2),t⟩:=fun t ht=>by
  rw[hw,hh,ht];show RVal.mk false [] (((W:Nat)+1:Int) / 2) (((H:Nat)+1:Int) / 2) (if bits=[]then []else fA W H bits)=_;rw[if_neg an];unfold fA rowsT;rw[ak]
  congr 1<;>omega
 refine foS func122 ?_;refine⟨by decide,by decide,?_⟩;conv=>whnf
 refine aI hΘ (X:={ y:Nat×List UInt8×Nat // y.1<=s/\y.2.1=rowsT W H bits y.1 }) (fun y=>[(5,.va (gA 1 3 y.1.2.2 y.1.2.1)),(6,.va (.int .i64 y.1.1))]) (7::8::10::11::12::jr 21 62 [])
  (fun y=>[(0,.frz F),(1,rawE W H bits),(2,rvalE ⟨false,[],0,0,[]⟩ 0 0),(3,gE 5 1 encB y.1.2.2 y.1.2.1)]) 4 (fun y=>s - y.1.1) ⟨(0,[],0),by simp[rowsT]⟩
  (fun J B=>leI [(3,3)] J B rfl ⟨tv,eO,cK oo _,aC aA _ _ _ _ _,tv⟩ ⟨rfl,rfl,tv⟩ ⟨Fz.r F,rfl,rfl,rfl,tv⟩) ?_
 rintro⟨⟨r,o,co⟩,ap,ho⟩ ac B;replace ap:r<=s:=ap;replace ho:o=rowsT W H bits r:=ho;have ao:=vU W H bits r;rw[I,<-ho]at ao;have a9:r*w<=16*16:=qah oo ar;by_cases gr:r < s
 ·have G:(r:Int) < IntKind.i64.wrap ((IntKind.i64.wrap ((H:Int)+1)).tdiv 2):=by rw[hh];omega
  have aq:r+1<=s:=gr;have L:s - (r+1) < s - r:=by omega
  have Q:r < 4611686018427387904:=by omega
  have Z:o=rowsT W H bits r++(List.range 0).map (ep W H bits r):=by rw[ho];simp
  have am:(!(bits==[]))=true:=by simpa using an
  refine⟨fun _=>?_,fun g=>absurd G (oe g)⟩;refine br (fun _=>?_) (fun g=>absurd am (by rw[g];simp));conv=>whnf
  clear am ao ho G hr
  refine aI hΘ (X:={ y:Nat×List UInt8×Nat // y.1<=w/\y.2.1=rowsT W H bits r++(List.range y.1).map (ep W H bits r) }) (fun y=>[(5,.va (gA 1 4 y.1.2.2 y.1.2.1)),(7,.va (.int .i64 y.1.1))]) (8::10::11::12::jr 31 52 [])
   (fun y=>[(0,.frz F),(1,rawE W H bits),(2,rvalE ⟨false,[],0,0,[]⟩ 0 0),(3,.gone),(4,gE 5 1 encB y.1.2.2 y.1.2.1)]) 5 (fun y=>w - y.1.1) ⟨(0,o,co),⟨js _,Z⟩⟩
   (fun J B=>by
    rcases o with _ | ⟨o0,e⟩
    ·exact leI [(4,3)] J B rfl ⟨tv,eO,cK oo _,tv,aC aA _ _ _ _ _,tv⟩ ⟨rfl,rfl,tv⟩ ⟨Fz.r F,rfl,rfl,aH aA (aV _ _ _ _),tv⟩
    ·exact leI [(4,3)] J B rfl ⟨tv,eO,cK oo _,tv,aC aA _ _ _ _ _,tv⟩ ⟨⟨rfl,rfl,rfl,.inr ⟨rfl,rfl,rfl,rfl⟩⟩,rfl,tv⟩ ⟨Fz.r F,rfl,rfl,aH aA (aV _ _ _ _),tv⟩) ?_
  rintro⟨⟨c,q,cq⟩,hc,hq⟩ ab ad;replace hc:c<=w:=hc;replace hq:q=rowsT W H bits r++(List.range c).map (ep W H bits r):=hq;by_cases gc:c < w
  ·have a2:(c:Int) < IntKind.i64.wrap ((IntKind.i64.wrap ((W:Int)+1)).tdiv 2):=by rw[hw];omega
   refine bri a2 ?_;conv=>whnf
   have ae:c+1<=w:=gc;have p:w - (c+1) < w - c:=by omega
   have K:c < 4611686018427387904:=by omega
   have a4:q.length<=272:=by
    rw[hq,qb,vU,qa,List.length_range,I];omega
   have aa:q++[ep W H bits r c]=rowsT W H bits r++(List.range (c+1)).map (ep W H bits r):=by
    rw[hq,ql,DH]
   refine aI hΘ (X:={ i:Nat // i<=4 }) (fun i=>[(8,.va (.int .u8 (bitT W H bits r c i.1).toNat)),(42,.va (.int .i64 i.1))]) (10::11::12::jr 43 36 [])
    (fun _=>[(0,.frz F),(1,rawE W H bits),(2,rvalE ⟨false,[],0,0,[]⟩ 0 0),(4,gE 5 1 encB cq q),(5,.one (.arr 24 2 rows4 4))]) 6 (fun i=>4 - i.1) ⟨0,js _⟩
    (fun J B=>leI [] J B rfl ⟨tv,eO,cK oo _,aC aA _ _ _ _ _,jM,tv⟩ ⟨rfl,rfl,tv⟩ ⟨Fz.r F,rfl,rfl,aH aA (aV _ _ _ _),rfl,tv⟩) ?_
   rintro⟨i,hi⟩ A D;replace hi:i<=4:=hi;by_cases gi:i < 4
   ·have a3:(i:Int) < 4:=by omega
    have a1:0<=(i:Int)/\(i:Int) < 4:=by omega
    have ag:=yai gi;have E:i+1<=4:=gi;have d:4 - (i+1) < 4 - i:=by omega
    have l:i < 4611686018427387904:=by omega
    have a7:∃x y,i / 2=x/\i % 2=y:=⟨_,_,rfl,rfl⟩
    obtain⟨m,n,au,av⟩:=a7;have S:m<=1/\n<=1:=by omega
    rw[au,av]at ag;have ei:=xz (r:=r) (x:=m) oo S.1;have ek:=xz (r:=c) (x:=n) oo S.2
    have a:bitT W H bits r c (i+1)=if hb W H bits (2*r+m) (2*c+n)=true then 49 else bitT W H bits r c i:=by
     rw[<-au,<-av];rfl
    refine bri a3 ⟨rfl,a1,_,ag,⟨by decide,by decide⟩,⟨by decide,by decide⟩,?_⟩;conv=>whnf
    by_cases T:2*r+m < H
    ·have hA:IntKind.i64.wrap (IntKind.i64.wrap (2*(r:Int))+(m:Int)) < (H:Int):=by rw[ei];omega
     by_cases gB:2*c+n < W
     ·have hB:IntKind.i64.wrap (IntKind.i64.wrap (2*(c:Int))+(n:Int)) < (W:Int):=by rw[ek];omega
      have U:=yck (i:=2*r+m) (k:=2*c+n) (W:=W) oo oo hW;rw[<-ei,<-ek]at U;have G:=ygd T gB;have ai:0<=IntKind.i64.wrap (IntKind.i64.wrap (IntKind.i64.wrap (IntKind.i64.wrap (2*(r:Int))+(m:Int))*(W:Int))+IntKind.i64.wrap (IntKind.i64.wrap (2*(c:Int))+(n:Int))):=by rw[U];omega
      have aw:∃b,bits[(2*r+m)*W+(2*c+n)]? =some b:=⟨_,qc (by rw[al];exact G)⟩
      obtain⟨bb,V⟩:=aw;have aj:bits[(IntKind.i64.wrap (IntKind.i64.wrap (IntKind.i64.wrap (IntKind.i64.wrap (2*(r:Int))+(m:Int))*(W:Int))+IntKind.i64.wrap (IntKind.i64.wrap (2*(c:Int))+(n:Int)))).toNat]? =some bb:=by rw[U,qg];exact V
      refine⟨fun _=>?_,fun g=>absurd hA (oe g)⟩;refine⟨fun _=>?_,fun g=>absurd hB (oe g)⟩;refine⟨ai,bb,aj,?_⟩;conv=>whnf
      by_cases u:(bb.toNat:Int)=49
      ·have f:hb W H bits (2*r+m) (2*c+n)=true:=hb_iff.2 ⟨T,gB,by rw[V,u8_eq dd u];rfl⟩;rw[if_pos f]at a;refine bri u ?_;exact⟨⟨i+1,E⟩,d,leR [] A D rfl ⟨tv,eO,cK oo _,aC aA _ _ _ _ _,jM,tv⟩ ⟨congrArg (fun b:UInt8=>SA.int .u8 (b.toNat:Int)) a,cnt l,tv⟩ ⟨Fz.r F,rfl,rfl,aH aA (aV _ _ _ _),rfl,tv⟩⟩
      ·have f:¬hb W H bits (2*r+m) (2*c+n)=true:=fun h=>by
        have h2:=(hb_iff.1 h).2.2;rw[V]at h2;apply u;rw[Option.some.inj h2];rfl
       rw[if_neg f]at a;refine brj u ?_;exact⟨⟨i+1,E⟩,d,leR [] A D rfl ⟨tv,eO,cK oo _,aC aA _ _ _ _ _,jM,tv⟩ ⟨congrArg (fun b:UInt8=>SA.int .u8 (b.toNat:Int)) a,cnt l,tv⟩ ⟨Fz.r F,rfl,rfl,aH aA (aV _ _ _ _),rfl,tv⟩⟩
     ·have hB:¬IntKind.i64.wrap (IntKind.i64.wrap (2*(c:Int))+(n:Int)) < (W:Int):=by rw[ek];omega
      have f:¬hb W H bits (2*r+m) (2*c+n)=true:=by rw[hb_no (fun h=>gB h.2)];simp
      rw[if_neg f]at a;refine⟨fun _=>?_,fun g=>absurd hA (oe g)⟩;refine⟨fun g=>absurd (od g) hB,fun _=>?_⟩;exact⟨⟨i+1,E⟩,d,leR [] A D rfl ⟨tv,eO,cK oo _,aC aA _ _ _ _ _,jM,tv⟩ ⟨congrArg (fun b:UInt8=>SA.int .u8 (b.toNat:Int)) a,cnt l,tv⟩ ⟨Fz.r F,rfl,rfl,aH aA (aV _ _ _ _),rfl,tv⟩⟩
    ·have hA:¬IntKind.i64.wrap (IntKind.i64.wrap (2*(r:Int))+(m:Int)) < (H:Int):=by rw[ei];omega
     have f:¬hb W H bits (2*r+m) (2*c+n)=true:=by rw[hb_no (fun h=>T h.1)];simp
     rw[if_neg f]at a;refine⟨fun g=>absurd (od g) hA,fun _=>?_⟩;exact⟨⟨i+1,E⟩,d,leR [] A D rfl ⟨tv,eO,cK oo _,aC aA _ _ _ _ _,jM,tv⟩ ⟨congrArg (fun b:UInt8=>SA.int .u8 (b.toNat:Int)) a,cnt l,tv⟩ ⟨Fz.r F,rfl,rfl,aH aA (aV _ _ _ _),rfl,tv⟩⟩
   ·have O:¬(i:Int) < 4:=by omega
    have a0:i=4:=by omega
    subst a0;rw[<-bitT4]at aa;rcases q with _ | ⟨q0,qr⟩
    ·refine brj O ⟨nb rfl,[encB (bitT W H bits r c 4)],rfl,rfl,rfl,by show 1*1<=140737488355328;omega,fun c' ax=>?_⟩;exact⟨⟨(c+1,[]++[bitT W H bits r c 4],c'),ae,aa⟩,p,leRn [_,_,_] [_,_] [(4,7)] ab ad rfl ⟨tv,eO,cK oo _,tv,aC aA _ _ _ _ _,tv⟩ ⟨cO (μ:=sig [(4,7)]) (i:=4) (j:=7) rfl 1 c' _ [] (bitT W H bits r c 4) rfl,cnt K,tv⟩ ⟨Fz.r F,rfl,rfl,aH aA (bC _ ss),tv⟩⟩
    ·have a6:(qr.length+1+1)*1<=140737488355328:=by
      have h9:qr.length+1<=272:=a4;omega
     refine brj O ⟨nb rfl,[encB (bitT W H bits r c 4)],rfl,rfl,rfl,by simp,rfl,a6,fun c' ax=>?_⟩;exact⟨⟨(c+1,(q0::qr)++[bitT W H bits r c 4],c'),ae,aa⟩,p,leRn [_,_,_] [_,_] [(4,7)] ab ad rfl ⟨tv,eO,cK oo _,tv,aC aA _ _ _ _ _,tv⟩ ⟨cO (μ:=sig [(4,7)]) (i:=4) (j:=7) rfl 1 c' _ (q0::qr) (bitT W H bits r c 4) rfl,cnt K,tv⟩ ⟨Fz.r F,rfl,rfl,aH aA (bC _ ss),tv⟩⟩
  ·have az:¬(c:Int) < IntKind.i64.wrap ((IntKind.i64.wrap ((W:Int)+1)).tdiv 2):=by rw[hw];omega
   have ay:c=w:=by omega
   have R:q=rowsT W H bits (r+1):=by rw[uJ,I,<-ay];exact hq
   clear hq;refine brj az ?_;conv=>whnf
   rcases q with _ | ⟨q0,qr⟩
   ·exact⟨⟨(r+1,[],cq),aq,R⟩,L,leRn [_,_,_] [_,_] [(3,4)] ac B rfl ⟨tv,eO,cK oo _,aC aA _ _ _ _ _,tv⟩ ⟨rfl,cnt Q,tv⟩ ⟨Fz.r F,rfl,rfl,aH aA (aV _ _ _ _),tv⟩⟩
   ·exact⟨⟨(r+1,q0::qr,cq),aq,R⟩,L,leRn [_,_,_] [_,_] [(3,4)] ac B rfl ⟨tv,eO,cK oo _,aC aA _ _ _ _ _,tv⟩ ⟨⟨rfl,rfl,rfl,.inr ⟨rfl,rfl,rfl,rfl⟩⟩,cnt Q,tv⟩ ⟨Fz.r F,rfl,rfl,aH aA (aV _ _ _ _),tv⟩⟩
 ·have ah:¬(r:Int) < IntKind.i64.wrap ((IntKind.i64.wrap ((H:Int)+1)).tdiv 2):=by rw[hh];omega
  have a5:r=s:=by omega
  rw[a5]at ho;have M:=hr o ho;rcases o with _ | ⟨o0,e⟩
  ·refine⟨fun g=>absurd (od g) ah,fun _=>?_⟩;exact nC M rfl
  ·have Y:(((o0::e).map encB).drop 0).take (e.length+1)=(o0::e).map encB:=by rw[y5,qk ss]
   have af:0+(e.length+1)<=((o0::e).map encB).length:=by simp
   refine⟨fun g=>absurd (od g) ah,fun _=>?_⟩;refine⟨rfl,af,(o0::e).map encB,Y,o0::e,rfl,?_⟩;exact nC M rfl
end Go.Proofs.YtfnkamphhpldcaaGreatDoor
namespace Go.Proofs.YtfnkamphhpldcaaGreatDoor
open Go Sx Tryz
def ROK(p:Int)(v:RVal):Prop:=VOK p (ofV p v)/\∀y∈v.lines,p≠1->y.1=[]
variable {p:Int}
theorem Ch(h:p≠1)(s:List UInt8)(q:Int):(rdL p s q).1.1=[]:=by
 unfold rdL;rw[if_neg h];split
 ·rfl
 ·split<;>rfl
theorem tK{p:Int}(b:p≠1)(s:List UInt8):∀(f:Nat) (acc:List RLn) (q:Int) (l:List RLn) (a:Int),(∀x∈acc,x.1=[])->dx p s f acc q=some (l,a)->∀x∈l,x.1=[]
 |0,acc,q,l,a,ha,h=>by
  rw[dx,Option.some.injEq,Prod.mk.injEq]at h;rw[<-h.1];exact ha
 |f+1,acc,q,l,a,ha,h=>by
  rw[dx]at h;split at h
  ·cases h
  ·refine tK b s f _ _ l a (fun x hx=>?_) h;rcases yd.1 hx with hx | hx
   ·exact ha x hx
   ·rw[qs.1 hx];exact Ch b s q
variable {v:RVal}
theorem DN{s:List UInt8}(h:fS p s=some v):v.lines=[]:=by
 unfold fS at h;dsimp only at h;by_cases a:p=7
 ·simp only[if_pos a]at h
  repeat' split at h
  all_goals first | (cases h;done) | (cases h;rfl)
 ·simp only[if_neg a]at h
  repeat' split at h
  all_goals first | (cases h;done) | (cases h;rfl)
theorem Ey{s:List UInt8}(h:readR p s=some v):∀y∈v.lines,p≠1->y.1=[]:=by
 unfold readR at h;split at h
 ·cases h
 split at h
 ·cases h;intro y a;simp at a
 split at h
 ·rw[DN h];intro y a;simp at a
 split at h
 ·cases h
 split at h
 ·cases h
 ·rename_i l q b;split at h
  ·cases h
   intro y a c;exact tK c s _ _ _ _ _ (fun x d=>by simp at d) b y a
  ·cases h
theorem yac{s:List UInt8}(h:readR p s=some v):(1<=p/\p<=8)/\ROK p v:=by
 have a:=r8 p s;rw[h]at a;have b:=mq a.symm;exact⟨b.1,b.2,Ey h⟩
theorem Bc(p:Int):ROK p lostR:=⟨.inl rfl,fun y a=>by cases a⟩
theorem D7(h:ROK p v)(b:v.lost=true):v.lines=[]:=by
 have e:=ko h.1 b;have a:v.lines.map (ofR p)=[]:=congrArg Val.lines e;simpa using a
theorem Be{x:Stp}(l:1<=p/\p<=8)(a:aS p x=true)(m:ROK p v):ROK p (stepR x v):=by
 by_cases j:v.lost=true
 ·have e:stepR x v=lostR:=if_pos (.inl j);rw[e];exact Bc p
 have d:v.lost=false:=by simpa using j
 refine⟨by rw[sI l a m.1 d];exact po l a m.1 d,?_⟩;intro y c b;by_cases i:x.1=6
 ·have e:stepR x v=lostR:=if_pos (.inr i);rw[e]at c;cases c
 have o:¬(v.lost=true\/x.1=6):=by
  rintro(h | h)
  ·exact j h
  ·exact i h
 by_cases g:x.1=5
 ·have e:stepR x v=halRV v:=by rw[stepR,if_neg o,if_pos g]
  rw[e]at c;cases c
 have e:stepR x v=⟨false,v.lines.map (eG x),0,0,[]⟩:=by rw[stepR,if_neg o,if_neg g]
 rw[e]at c;obtain⟨z,s,rfl⟩:=jk.1 c;have f:=m.2 z s b;obtain⟨k,n⟩:=x;rcases dE l a with⟨rfl,h,_⟩ | ⟨rfl,h,_⟩ | ⟨rfl,h,q⟩ | ⟨rfl,h,q⟩ | ⟨rfl,h,_⟩ | ⟨rfl,_⟩
 ·exact absurd h b
 ·exact absurd h b
 ·exact f
 ·exact f
 ·exact absurd rfl g
 ·exact absurd rfl i
theorem yU{p:Int}(a:1<=p/\p<=8):∀(l:List Stp) (v:RVal),(∀x∈l,aS p x=true)->ROK p v->ROK p (runR l v)
 |[],_,_,h=>h
 |x::r,v,hok,h=>yU a r _ (fun y b=>hok y (by simp[b])) (Be a (hok x ss) h)
theorem tM{p:Int}:∀{l acc:List Ln},lnsOk p acc l->∀x∈l,lnOk p [] x
 |y::r,acc,h,x,hx=>by
  rcases qi.1 hx with rfl | hx
  ·have h1:=h.1;unfold lnOk at*;split
   ·rename_i a;rw[if_pos a]at h1;exact h1
   ·rename_i a;rw[if_neg a]at h1;exact⟨h1.1,h1.2.1,h1.2.2.1,fun _ y b=>by cases b⟩
  ·exact tM h.2 x hx
theorem uX(m:1<=p/\p<=5)(h:ROK p v)(l:v.lost=false):v.lines.length<=64/\(∀y∈v.lines,y.1.length<=80)/\(p=3\/p=5->∀y∈v.lines,i64 y.2.2.2.1):=by
 obtain⟨_,_,_,i,j⟩:=fV h.1 l m.2;have e:∀y∈v.lines,lnOk p [] (ofR p y):=fun y d=>tM j _ (jk.2 ⟨y,d,rfl⟩)
 refine⟨by have a:(v.lines.map (ofR p)).length<=64:=i;rw[qa]at a;exact a,fun y d=>?_,fun g y d=>?_⟩
 ·by_cases h1:p=1
  ·have a:=e y d;unfold lnOk at a;rw[if_pos h1]at a;have c:=a.2.1;unfold ofR at c;rw[if_pos h1]at c;exact c
  ·rw[h.2 y d h1];exact js _
 ·have a:=e y d;unfold lnOk at a;rw[if_neg oo]at a;have c:=a.2.2.1;obtain⟨t,n0,f,b,n⟩:=y;rcases g with rfl | rfl
  ·have k:((0:Int)<=n0/\n0<=31)/\((0:Int)<=f/\f<=31)/\((-1000000:Int)<=b/\b<=1000000)/\True:=c;exact⟨by show -9223372036854775808<=b;omega,by show b<=9223372036854775807;omega⟩
  ·have k:((0:Int)<=n0/\n0<=31)/\((0:Int)<=f/\f<=31)/\((-1000000000000:Int)<=b/\b<=1000000000000)/\True:=c;exact⟨by show -9223372036854775808<=b;omega,by show b<=9223372036854775807;omega⟩
end Go.Proofs.YtfnkamphhpldcaaGreatDoor
namespace Go.Proofs.YtfnkamphhpldcaaGreatDoor
open Go Sx Tryz
set_option maxRecDepth 100000
theorem Its.nil_of{F:Fz}{a:SA}(h:Its F a []):a=.nilsl:=by
 rcases h with h | ⟨h,_⟩
 ·exact h.2
 ·exact absurd rfl h
theorem AN(F:Fz)(p x:Int)(v:RVal)(a:SA)(B:p=6\/p=7)(D:ROK p v)(n:v.lost=false)(A:Its F a v.lines):
  Fo prog F 55 [.va (.int .i64 p),.agg (enc (5,x)),.agg (rvS v a)] (ij (5,x) v):=by
 obtain⟨h1,l,s,i⟩:=fY D.1 n B;obtain⟨k,c,w,h,bits⟩:=v;replace n:k=false:=n;subst n
 have u:c=[]:=by
  have m:c.map (ofR p)=[]:=h1;simpa using m
 subst u;have e:=Its.nil_of A;subst e;replace l:0<=w/\w<=32:=l;replace s:min w 1<=h/\h<=min w 1*32:=s;have J:∃W:Nat,w=(W:Int):=⟨w.toNat,(qaw l.1).symm⟩
 obtain⟨W,rfl⟩:=J;have I:∃H:Nat,h=(H:Int):=⟨h.toNat,(qaw oo).symm⟩
 obtain⟨H,rfl⟩:=I;have f:W<=32:=by omega
 have d:H<=32:=by omega
 have j:Fo prog F 122 [.agg (rvS ⟨false,[],(W:Nat),(H:Nat),bits⟩ .nilsl)] (fun o G=>o=.ret (.agg (rvS (halRV ⟨false,[],(W:Nat),(H:Nat),bits⟩) .nilsl))/\G=F):=by
  by_cases hb:bits=[]
  ·subst hb;exact EB F W H f d
  ·refine EC F W H bits f d hb ?_;rcases B with rfl | rfl
   ·rw[if_neg dd]at i;exact absurd i hb
   ·rw[if_pos rfl]at i;have m:(bits.length:Int)=(W:Int)*(H:Int):=i.1;rw[<-qa5]at m;exact Int.ofNat.inj m
 have y:stepR (5,x) ⟨false,[],(W:Nat),(H:Nat),bits⟩=halRV ⟨false,[],(W:Nat),(H:Nat),bits⟩:=by
  unfold stepR;rw[if_neg (by rintro(h | h);cases h;exact absurd h (by show¬(5:Int)=6;decide)),if_pos rfl]
 have E:halRV ⟨false,[],(W:Nat),(H:Nat),bits⟩=⟨false,[],((W:Int)+1) / 2,((H:Int)+1) / 2,if bits=[]then []else fA W H bits⟩:=rfl;have q:∃w h b,halRV ⟨false,[],(W:Nat),(H:Nat),bits⟩=⟨false,[],w,h,b⟩:=⟨_,_,_,E⟩
 obtain⟨M,L,K,q⟩:=q;rw[q]at j y;clear q E h1 l s i A D;refine foS func55 ?_;refine br (fun g=>absurd (od g) (show¬(5:Int)=6 by decide)) (fun _=>?_);refine br (fun _=>?_) (fun g=>absurd (show(5:Int)=5 from rfl) (oe g));refine usePs j ?_;exact kB y rfl rfl (Fz.r F)
theorem yak(F:Fz)(p:Int)(x:Stp)(v:RVal)(a:SA)(B:1<=p/\p<=8)(j:aS p x=true)(K:ROK p v)(J:Its F a v.lines):
  Fo prog F 55 [.va (.int .i64 p),.agg (enc x),.agg (rvS v a)] (ij x v):=by
 by_cases A:v.lost=true
 ·obtain⟨g,d,w,h,bits⟩:=v;replace A:g=true:=A;subst A;exact Db F p x w h bits d a
 have f:v.lost=false:=by simpa using A
 obtain⟨k,n⟩:=x
 have L:k≠5->k≠6->1<=p/\p<=5:=fun h1 l=>by
  rcases dE B j with⟨_,h,_⟩ | ⟨_,h,_⟩ | ⟨_,h,_⟩ | ⟨_,h,_⟩ | ⟨h,_⟩ | ⟨h,_⟩
  ·omega
  ·omega
  ·omega
  ·omega
  ·exact absurd h h1
  ·exact absurd h l
 by_cases o:k=5\/k=6
 ·rcases o with rfl | rfl
  ·have s:p=6\/p=7:=by
    rcases dE B j with⟨h,_⟩ | ⟨h,_⟩ | ⟨h,_⟩ | ⟨h,_⟩ | ⟨_,h,_⟩ | ⟨h,_⟩
    ·exact absurd h dd
    ·exact absurd h dd
    ·exact absurd h dd
    ·exact absurd h dd
    ·exact h
    ·exact absurd h dd
   exact AN F p n v a s K f J
  ·obtain⟨g,d,w,h,bits⟩:=v;replace f:g=false:=f;subst f;exact AO F p n w h bits d a
 have I:=L (fun h=>o (.inl h)) (fun h=>o (.inr h));obtain⟨q,D,O⟩:=uX I K f;obtain⟨g,d,w,h,bits⟩:=v;replace f:g=false:=f;subst f;replace q:d.length<=64:=q;rcases J with⟨h1,l⟩ | ⟨_,b,e,c,X,i,h1,l,u⟩
 ·have E:d=[]:=h1;subst E l;rcases dE B j with⟨rfl,_,_⟩ | ⟨rfl,_,_⟩ | ⟨rfl,_,_⟩ | ⟨rfl,_,_⟩ | ⟨h,_⟩ | ⟨h,_⟩
  ·exact lP F p 1 n dd w h bits
  ·exact lP F p 2 n dd w h bits
  ·exact lP F p 3 n dd w h bits
  ·exact lP F p 4 n dd w h bits
  ·exact absurd (.inl h) o
  ·exact absurd (.inr h) o
 ·subst h1;rcases dE B j with⟨rfl,_,_⟩ | ⟨rfl,_,_⟩ | ⟨rfl,G,M⟩ | ⟨rfl,_,_⟩ | ⟨h,_⟩ | ⟨h,_⟩
  ·exact lO F p 1 n dd d w h bits b e c X i (fun h=>absurd h dd) l u q (fun y m=>⟨D y m,fun h=>absurd h dd⟩)
  ·exact lO F p 2 n dd d w h bits b e c X i (fun h=>absurd h dd) l u q (fun y m=>⟨D y m,fun h=>absurd h dd⟩)
  ·exact lO F p 3 n dd d w h bits b e c X i (fun _=>M) l u q (fun y m=>⟨D y m,fun _=>O G y m⟩)
  ·exact lO F p 4 n dd d w h bits b e c X i (fun h=>absurd h dd) l u q (fun y m=>⟨D y m,fun h=>absurd h dd⟩)
  ·exact absurd (.inl h) o
  ·exact absurd (.inr h) o
