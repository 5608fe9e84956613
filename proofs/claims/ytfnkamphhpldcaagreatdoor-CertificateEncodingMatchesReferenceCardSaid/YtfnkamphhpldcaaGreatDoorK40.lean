import Derived.Test.YtfnkamphhpldcaaGreatDoorK38
import Derived.Test.YtfnkamphhpldcaaGreatDoorK35
set_option maxHeartbeats 64000000
namespace Go.Proofs.YtfnkamphhpldcaaGreatDoor
open Go Sx Tryz
set_option maxRecDepth 100000
def lnF1(s:Stp)(x:Ln):Ln:=if s.1=1 then foldL x else if s.1=2 then kV x else if s.1=3 then kK s.2 x else limL s.2 x
def lnF(t:List Stp)(x:Ln):Ln:=t.foldl (fun x s=>lnF1 s x) x
theorem mT:∀(t:List Stp) (v:Val),v.lost=false->(∀s∈t,1<=s.1/\s.1<=4)->runS t v={ v with lines:=v.lines.map (lnF t) }
 |[],v,_,_=>by
  have:(lnF []:Ln->Ln)=id:=rfl;rw[this,qc9];rfl
 |s::r,v,hv,h=>by
  have a:=h s ss
  have h1:runS (s::r) v=runS r (stepS s v):=by
   show runS r (if v.lost=true then v else stepS s v)=_;rw[hv];rfl
  have b:stepS s v={ v with lines:=v.lines.map (lnF1 s) }:=by
   obtain⟨k,n⟩:=s;replace a:1<=k/\k<=4:=a;have c:k=1\/k=2\/k=3\/k=4:=by omega
   rcases c with rfl | rfl | rfl | rfl<;>rfl
  rw[h1,b,mT r { v with lines:=v.lines.map (lnF1 s) } hv (fun x d=>h x (by simp[d]))]
  simp_all[lnF,lnF1]
def StOk(p:Int)(t:List Stp):Prop:=t=[(6,0)]\/(aN p t=true/\∀s∈t,s.1≠6)
variable {p:Int}
theorem BC(a:1<=p/\p<=8):∀m∈nfs p,m=[(6,0)]\/∀s∈m,s.1≠6:=by
 rcases p8 a with rfl | rfl | rfl | rfl | rfl | rfl | rfl | rfl<;>decide+kernel
variable {t:List Stp}
theorem yb0(h:aN p t=true)(a:normS t=t):StOk p t:=by
 have h1:=BC (kC h) t (by rw[<-a];exact yba h)
 grind[StOk,aN,normS]
variable {a:List Kp}
theorem dE(d:a.all aX=true)(c:1<=p/\p<=8):StOk p (aE p a)/\aN p (aE p a)=true/\normS (aE p a)=aE p a/\(p=4->0 < (aE p a).length->aE p a=[(6,0)])/\(nameK p=false->aE p a=[]):=by
 have b:StOk p []/\aN p []=true/\normS []=[]/\(p=4->0 < ([]:List Stp).length->([]:List Stp)=[(6,0)])/\(nameK p=false->([]:List Stp)=[]):=
  ⟨.inr ⟨nilV c,by simp⟩,nilV c,by decide,(fun _ h=>absurd h ss),fun _=>rfl⟩
 induction a with
 |nil=>exact b
 |cons k r ih=>
  grind[Bool.not_eq_true',decide_eq_false_iff_not,yb0,aE,aX]
theorem qH(h:aN p t=true)(b:∀s∈t,s.1≠6)(c:p=1\/p=2\/p=3):∀s∈t,1<=s.1/\s.1<=4:=by
 intro s a;have h1:=fH (k:=s.1) (n:=s.2) (kC h) (gU h s a)
 grind
theorem ya2{s:Stp}(g:p=1\/p=2\/p=3)(f:bA p s=true)(b:s.1≠6){x:Ln}(a:lnOk p [] x):lnOk p [] (lnF1 s x)/\(lnF1 s x).2.take 2=if p=3 then x.2.take 2 else(lnF1 s x).2.take 2:=by
 obtain⟨k,n⟩:=s;have h1:=fH (k:=k) (n:=n) oo f;replace b:k≠6:=b;rcases h1 with⟨rfl,rfl,rfl⟩ | ⟨rfl,rfl,rfl⟩ | ⟨rfl,c,d⟩ | ⟨rfl,rfl,d⟩ | ⟨rfl,c,rfl⟩ | ⟨rfl,rfl⟩
 ·exact⟨yD rfl [] x a,rfl⟩
 ·exact⟨xQ rfl [] x a,rfl⟩
 ·have e:p=3:=by omega
  subst e;exact⟨xF (.inl rfl) oo [] x a,pv n x.2⟩
 ·exact⟨wB rfl [] x a,rfl⟩
 ·omega
 omega
theorem na{p:Int}(a:p=1\/p=2\/p=3):∀(t:List Stp),(∀s∈t,bA p s=true/\s.1≠6)->∀x:Ln,lnOk p [] x->lnOk p [] (lnF t x)/\(p=3->(lnF t x).2.take 2=x.2.take 2)
 |[],_,x,hx=>⟨hx,fun _=>rfl⟩
 |s::r,h,x,hx=>by
  have h1:=ya2 a (h s ss).1 (h s ss).2 hx;have c:=na a r (fun y b=>h y (by simp[b])) _ h1.1
  grind[lnOk,lnF,bA,lnF1]
def lineR(t m:List Stp)(l:DLn):DLn:=(if t=[(6,0)]then []else(lnF t (l.1,[])).1,if m=[(6,0)]then 0 else(lnF m ([],[l.2])).2.headD 0)
def cellR(k:List Stp)(c:Cel):Cel:=if c.sum=true then c else⟨c.row,c.col,false,if k=[(6,0)]then 0 else(lnF k ([],[c.row,c.col,c.value])).2.getD 2 0,c.top,c.left⟩
theorem rc{l:DLn}:dlnOk l=true↔lnOk 1 [] (l.1,[])/\lnOk 2 [] ([],[l.2]):=by
 unfold dlnOk lnOk;rw[if_pos rfl,if_neg dd];simp only[qd,decide_eq_true_eq,qav,inRW];constructor
 ·rintro⟨⟨h1,a⟩,b⟩;exact⟨⟨tv,h1,a⟩,tv,rfl,⟨b,tv⟩,fun h=>absurd rfl h⟩
 ·rintro⟨⟨_,h1,a⟩,_,_,⟨b,_⟩,_⟩;exact⟨⟨h1,a⟩,b⟩
theorem yaz{x:Ln}(h:lnOk 1 [] x):x=(x.1,[]):=by
 grind[Prod.ext,lnOk]
theorem ya0{x:Ln}(h:lnOk 2 [] x):x=([],[x.2.headD 0]):=by
 unfold lnOk at h;rw[if_neg ss]at h;obtain⟨s,n⟩:=x;obtain⟨h1,a,_⟩:=h
 match n,a with
 |[z],_=>grind
theorem ya1{x:Ln}(h:lnOk 3 [] x):x=([],[x.2.getD 0 0,x.2.getD 1 0,x.2.getD 2 0]):=by
 unfold lnOk at h;rw[if_neg ss]at h;obtain⟨s,n⟩:=x;obtain⟨h1,d,_⟩:=h
 match n,d with
 |[a,b,c],_=>grind
theorem nG(h:aN p t=true)(b:∀s∈t,s.1≠6):∀s∈t,bA p s=true/\s.1≠6:=fun s a=>⟨gU h s a,b s a⟩
variable {m:List Stp}
theorem pc(f:StOk 1 t)(e:StOk 2 m){l:DLn}(d:dlnOk l=true):
  dlnOk (lineR t m l)=true/\(t≠[(6,0)]->lnF t (l.1,[])=((lineR t m l).1,[]))/\(m≠[(6,0)]->lnF m ([],[l.2])=([],[(lineR t m l).2])):=by
 obtain⟨i,j⟩:=rc.1 d
 have a:lnOk 1 [] ((lineR t m l).1,[])/\(t≠[(6,0)]->lnF t (l.1,[])=((lineR t m l).1,[])):=by
  rcases f with rfl | ⟨g,c⟩
  ·grind[lnOk,lineR,lnF,StOk,dlnOk]
  ·grind[na,nG,yaz,lineR,lnF,lnOk,StOk,dlnOk,aN]
 have b:lnOk 2 [] ([],[(lineR t m l).2])/\(m≠[(6,0)]->lnF m ([],[l.2])=([],[(lineR t m l).2])):=by
  rcases e with rfl | ⟨g,c⟩
  ·refine⟨?_,fun h=>absurd rfl h⟩;show lnOk 2 [] ([],[0]);unfold lnOk;rw[if_neg dd];exact⟨rfl,rfl,⟨by decide,tv⟩,fun h=>absurd rfl h⟩
  ·grind[na,nG,ya0,lineR,lnF,lnOk,StOk,dlnOk,aN]
 exact⟨rc.2 ⟨a.1,b.1⟩,a.2,b.2⟩
theorem rV{c:Cel}(f:c.sum=false):celOk c=true↔lnOk 3 [] ([],[c.row,c.col,c.value])/\c.top=0/\c.left=0:=by
 unfold celOk lnOk;rw[f,if_neg dd];simp only[qd,decide_eq_true_eq,inRW];constructor
 ·rintro⟨⟨h1,a⟩,⟨b,d⟩,e⟩;exact⟨⟨tv,rfl,⟨h1,a,b,tv⟩,fun _ y g=>by grind⟩,d,e⟩
 ·rintro⟨⟨_,_,⟨h1,a,b,_⟩,_⟩,d,e⟩;exact⟨⟨h1,a⟩,⟨b,d⟩,e⟩
theorem e8(k:List Stp)(c:Cel):(cellR k c).sum=c.sum/\(cellR k c).row=c.row/\(cellR k c).col=c.col/\(cellR k c).top=c.top/\(cellR k c).left=c.left/\(c.sum=true->cellR k c=c):=by
 grind[cellR]
theorem wc{k:List Stp}(n:StOk 3 k){c:Cel}(m:celOk c=true):
  celOk (cellR k c)=true/\(c.sum=false->k≠[(6,0)]->lnF k ([],[c.row,c.col,c.value])=([],[c.row,c.col,(cellR k c).value])):=by
 by_cases b:c.sum=true
 ·grind[e8]
 ·have b:c.sum=false:=by simpa using b
  obtain⟨f,u,s⟩:=(rV b).1 m;have l:(cellR k c).sum=false:=(e8 k c).1.trans b;have i:cellR k c=⟨c.row,c.col,false,if k=[(6,0)]then 0 else(lnF k ([],[c.row,c.col,c.value])).2.getD 2 0,c.top,c.left⟩:=by rw[cellR,b];rfl
  have q:lnOk 3 [] ([],[c.row,c.col,(cellR k c).value])/\(k≠[(6,0)]->lnF k ([],[c.row,c.col,c.value])=([],[c.row,c.col,(cellR k c).value])):=by
   rcases n with rfl | ⟨o,j⟩
   ·have e:(cellR [(6,0)] c).value=0:=by rw[i];rfl
    rw[e];refine⟨?_,fun h=>absurd rfl h⟩;unfold lnOk at f ⊢;rw[if_neg dd]at f ⊢;obtain⟨_,_,⟨h1,a,_⟩,_⟩:=f;exact⟨rfl,rfl,⟨h1,a,show(-1000000:Int)<=0/\(0:Int)<=1000000 by decide,tv⟩,fun _ y p=>by cases p⟩
   ·have h:=na (.inr (.inr rfl)) k (nG o j) _ f;have g:k≠[(6,0)]:=fun e=>by subst e;exact j (6,0) ss rfl
    have e:(cellR k c).value=(lnF k ([],[c.row,c.col,c.value])).2.getD 2 0:=by rw[i];exact if_neg g
    have d:=ya1 h.1;have a:=h.2 rfl;rw[d]at a;have a:[(lnF k ([],[c.row,c.col,c.value])).2.getD 0 0,(lnF k ([],[c.row,c.col,c.value])).2.getD 1 0]=[c.row,c.col]:=a;simp only[List.cons.injEq,and_true]at a;rw[a.1,a.2,<-e]at d;exact⟨by rw[<-d];exact h.1,fun _=>d⟩
  grind[rV,e8]
theorem pJ:∀l m:List Cel,l.map (fun c=>(c.row,c.col))=m.map (fun c=>(c.row,c.col))->ascF l=ascF m
 |[],[],_=>rfl
 |[],_::_,h=>by simp at h
 |_::_,[],h=>by simp at h
 |[_],[_],_=>rfl
 |[_],_::_::_,h=>by simp at h
 |_::_::_,[_],h=>by simp at h
 |a::b::r,a'::d::r',h=>by
  have ih:=pJ (b::r) (d::r')
  grind[List.cons.injEq,Prod.mk.injEq,ltC,ascF]
def frzC(x:Cel×Int):Cel:=⟨x.1.row,x.1.col,false,x.2,0,0⟩
def frzR(K:List Cel)(o:List Int):List Cel:=(K.zip o).map frzC
def runD(a:List Kp)(d:Dc):Option Dc:=
 let K:=d.cells.map (cellR (aE 3 a))
 let L:=d.lines.map (lineR (aE 1 a) (aE 2 a))
 let v:=if aE 7 a=[(6,0)]then loseV else runS (aE 7 a) (bV 7 d)
 if 0 < (aE 4 a).length then
  if(valsF K).all (fun n=>inR n (-1000000) 1000000)=true then some ⟨L,frzR K (valsF K),v.w,v.bits⟩else none
 else some ⟨L,K,v.w,v.bits⟩
theorem run5:∀(b:List Stp) (v u:Val),(∀s∈b,s.1=5)->v.lost=false->v.lines=[]->u.lost=false->u.lines=[]->u.bits=[]->u.w=v.w->u.h=v.h->
  (runS b v).lost=false/\(runS b v).lines=[]/\runS b u=⟨false,[],(runS b v).w,(runS b v).h,[]⟩
 |[],v,u,_,h1,h2,h3,h4,h5,h6,h7=>by
  obtain⟨i,d,j,g,f⟩:=u
  grind[runS]
 |s::r,v,u,hb,h1,h2,h3,h4,h5,h6,h7=>by
  have a:=hb s ss
  have e:∀x:Val,x.lost=false->runS (s::r) x=runS r (halV x):=fun x c=>by
   show runS r (if x.lost=true then x else stepS s x)=_;rw[c];obtain⟨k,n⟩:=s;replace a:k=5:=a;subst a;rfl
  rw[e v h1,e u h3];refine run5 r (halV v) (halV u) (fun x c=>hb x (by simp[c])) rfl rfl rfl rfl ?_ ?_ ?_
  ·show(if u.bits=[]then []else _)=[];rw[if_pos h5]
  ·show(u.w+1) / 2=(v.w+1) / 2;rw[h6]
  grind[halV,runS]
theorem yda{v:Val}(m:VOK 7 v)(l:v.lost=false):hgt v.w v.bits=v.h/\rasOk v.w v.bits=true:=by
 obtain⟨_,n,k,i⟩:=ol m l (.inr rfl);rw[if_pos rfl]at i;obtain⟨b,a⟩:=i;have c:inR v.w 0 32=true:=inRW.2 n;have e:v.bits.all bitK=true:=a;by_cases d:v.w=0
 ·have f:v.h=0:=by rw[d]at k;omega
  have g:v.bits=[]:=by
   rw[d,Int.zero_mul]at b;exact y6.1 oo
  have j:hgt v.w v.bits=0:=by rw[hgt,if_pos oo]
  refine⟨by rw[j,f],?_⟩;rw[rasOk,c,e,d,g];rfl
 grind[Int.mul_tdiv_cancel_left,decide_eq_true,hgt,rasOk,VOK,inR,bitK]
theorem yb1{b:List Stp}(h:aN 7 b=true)(c:∀s∈b,s.1≠6):∀s∈b,s.1=5:=by
 intro s a;have h1:=fH (k:=s.1) (n:=s.2) oo (gU h s a)
 grind
def rasV(b:List Stp)(d:Dc):Val:=if b=[(6,0)]then loseV else runS b (bV 7 d)
variable {d:Dc}
theorem nw{b:List Stp}(o:StOk 7 b)(p:docOk d=true):rasOk (rasV b d).w (rasV b d).bits=true/\
  (b≠[(6,0)]->runS b (bV 7 d)=⟨false,[],(rasV b d).w,hgt (rasV b d).w (rasV b d).bits,(rasV b d).bits⟩/\runS b (bV 6 d)=⟨false,[],(rasV b d).w,hgt (rasV b d).w (rasV b d).bits,[]⟩):=by
 rcases o with rfl | ⟨m,k⟩
 ·exact⟨show rasOk 0 []=true by rfl,fun h=>absurd rfl h⟩
 ·have g:b≠[(6,0)]:=fun e=>by subst e;exact k (6,0) ss rfl
  have e:rasV b d=runS b (bV 7 d):=if_neg g;have n:=yb1 m k;have j:=run5 b (bV 7 d) (bV 6 d) n rfl rfl rfl rfl rfl rfl rfl;have i:=ydr m (jT oo p);have l:=yda i j.1;rw[e];refine⟨l.2,fun _=>⟨?_,?_⟩⟩
  ·rw[l.1];have h1:=j.1;have f:=j.2.1
   revert h1 f
   generalize runS b (bV 7 d)=v;intro h1 f;obtain⟨a,b,c,d,e⟩:=v;simp only at h1 f;rw[h1,f]
  grind
theorem EN{n:Int}(h:-1000000<=n/\n<=1000000):dM n=n:=by
 grind[dM]
theorem tN:∀(l d:List Cel) (o:List Int),(∀c∈l,c.sum=false/\ -1000000<=c.value/\c.value<=1000000)->valsA l d o=o++l.map (·.value)
 |[],_,o,_=>by simp[valsA]
 |c::r,d,o,h=>by
  have b:=h c ss;rw[valsA,tN r _ _ (fun x a=>h x (by simp[a]))]
  grind[EN,valF]
theorem rW(c:a.all aX=true)(d:1<=p/\p<=8):aN p (bJ a p)=true/\normS (bJ a p)=bJ a p:=by
 have i:aN p [(6,0)]=true/\normS [(6,0)]=[(6,0)]:=by
  refine⟨?_,by decide⟩;rcases p8 d with rfl | rfl | rfl | rfl | rfl | rfl | rfl | rfl<;>decide
 by_cases f:p=3
 ·grind[iO,iP,dE,aE,aN,bJ,normS,aX]
 ·by_cases g:p=5
  ·grind[iO,iP,dE,aE,aN,bJ,normS,aX]
  ·by_cases b:p=6
   ·subst b;rw[yF];have h:=dE c (p:=7) oo;refine⟨Ch oo ?_ ?_,h.2.2.1⟩
    ·exact(n7 h.2.1).2.1
    ·intro s e;have h1:=(fH (p:=7) (k:=s.1) (n:=s.2) oo (gU h.2.1 s e))
     obtain⟨k,n⟩:=s;rcases h1 with⟨_,h,_⟩ | ⟨_,h,_⟩ | ⟨_,h,_⟩ | ⟨_,h,_⟩ | ⟨rfl,_,rfl⟩ | ⟨rfl,rfl⟩
     ·omega
     ·omega
     ·omega
     ·omega
     ·decide
     ·decide
   grind[iQ,dE]
theorem Da(c:a.all aX=true):clOk (bR a) 1=true:=by
 have h:∀(n:Nat) (i:Nat),i+n<=8->clOk ((List.range' i n).map fun k:Nat=>((k:Int)+1,bJ a ((k:Int)+1))) ((i:Int)+1)=true:=by
  intro n
  induction n with
  |zero=>intro i _;rfl
  |succ n ih=>
   intro i d;have h1:=ih (i+1) oo;have b:=rW c (p:=(i:Int)+1) oo;rw[List.range'_succ,qw,clOk,clAt];simp only[b.1,decide_eq_true b.2,decide_true,qab];exact h1
 grind[List.range_eq_range',bR]
theorem sF(h:¬0 < (aE p a).length):aE p a=[]:=y6.1 oo
theorem uQ(c:Cel):cellR [] c=c:=by
 by_cases h:c.sum=true
 ·grind[e8]
 ·have h:c.sum=false:=by simpa using h
  obtain⟨a,b,s,v,t,l⟩:=c;replace h:s=false:=h;subst h;rfl
theorem AI(k:List Stp)(K:List Cel):(K.map (cellR k)).map (fun c=>(c.row,c.col))=K.map (fun c=>(c.row,c.col)):=by
 grind[List.map_map,List.map_congr_left,e8,Prod.ext]
variable {K:List Cel}
theorem qU{o:List Int}(h:K.length<=o.length):(frzR K o).map (fun c=>(c.row,c.col))=K.map (fun c=>(c.row,c.col)):=by
 have h1:=List.map_fst_zip h
 conv=>rhs;rw[<-h1]
 rw[frzR,jq,jq];rfl
theorem cells_ok{k:List Stp}(b:StOk 3 k)(a:docOk d=true):ascF (d.cells.map (cellR k))=true/\∀c∈d.cells.map (cellR k),celOk c=true:=by
 grind[dN,pJ,AI,wc,ascF,cellR,celOk,StOk,docOk]
theorem pd(c:StOk 1 t)(b:StOk 2 m)(a:docOk d=true):(d.lines.map (lineR t m)).all dlnOk=true:=by
 grind[dN,List.all_eq_true,pc,lineR,dlnOk,StOk,docOk]
theorem yc5{o:List Int}(h:o.length=K.length)(b:ascF K=true)(g:∀c∈K,celOk c=true)(i:∀n∈o,inR n (-1000000) 1000000=true):
  ascF (frzR K o)=true/\(∀c∈frzR K o,celOk c=true)/\(frzR K o).length=K.length:=by
 refine⟨(pJ _ _ (qU oo)).trans b,fun c d=>?_,by rw[frzR,qa,qao];omega⟩;obtain⟨⟨a,n⟩,h1,rfl⟩:=qz.1 d;obtain⟨e,f⟩:=qdm h1
 grind[celOk,inR,frzC,ascF,frzR]
theorem ko{L:List DLn}{w:Int}{s:List UInt8}(h1:L.length<=64)(a:K.length<=64)(b:ascF K=true)(d:L.all dlnOk=true)(e:∀c∈K,celOk c=true)(f:rasOk w s=true):docOk ⟨L,K,w,s⟩=true:=by
 grind[docOk]
def midD(a:List Kp)(d:Dc):Dc:=⟨d.lines.map (lineR (aE 1 a) (aE 2 a)),d.cells.map (cellR (aE 3 a)),d.w,d.bits⟩
theorem r8(c:a.all aX=true)(b:docOk d=true):docOk (midD a d)=true:=by
 grind[dN,cells_ok,ko,List.length_map,pd,dE,docOk,midD,aX]
theorem tU{e:Dc}(b:runD a d=some e):∃K,e=⟨(midD a d).lines,K,(rasV (aE 7 a) d).w,(rasV (aE 7 a) d).bits⟩/\
  ((¬0 < (aE 4 a).length/\K=(midD a d).cells)\/(0 < (aE 4 a).length/\(∀n∈valsF (midD a d).cells,inR n (-1000000) 1000000=true)/\K=frzR (midD a d).cells (valsF (midD a d).cells))):=by
 grind[Option.some.inj,runD,midD,rasV,aE,valsF,inR,frzR]
theorem ru(f:a.all aX=true){e:Dc}(b:docOk d=true)(c:runD a d=some e):docOk e=true:=by
 grind[tU,dN,r8,nw,dE,yc5,ff,ko,docOk,aX,runD]
theorem Ci(d:∀n∈valsF K,inR n (-1000000) 1000000=true):valsF (frzR K (valsF K))=valsF K:=by
 have h:∀c∈frzR K (valsF K),c.sum=false/\ -1000000<=c.value/\c.value<=1000000:=fun c b=>by
  obtain⟨⟨a,n⟩,h1,rfl⟩:=qz.1 b;exact⟨rfl,inRW.1 (d n (qdm h1).2)⟩
 have h1:=tN _ [] [] h;rw[valsF,h1,qv,frzR,jq];have e:(Cel.value∘frzC)=Prod.snd:=rfl
 grind[List.map_snd_zip,ff,frzC]
theorem yeb{d:List Cel}{o:List Int}(h:d.map (fun c=>(c.row,c.col))=K.map (fun c=>(c.row,c.col))):((d.zip o).map fun x=>(([],[x.1.row,x.1.col,x.2]):Ln))=(K.zip o).map fun x=>([],[x.1.row,x.1.col,x.2]):=by
 induction d generalizing K o with
 |nil=>simp_all
 |cons a r ih=>cases K with
  |nil=>grind
  |cons b s=>
   simp only[qw,List.cons.injEq,Prod.mk.injEq]at h;cases o with
   |nil=>rfl
   |cons n o=>grind[List.zip_cons_cons]
theorem val1(e:StOk 1 t)(g:StOk 2 m)(b:docOk d=true)(c:t≠[(6,0)])(K:List Cel)(w:Int)(s:List UInt8):runS t (bV 1 d)=bV 1 ⟨d.lines.map (lineR t m),K,w,s⟩:=by
 have f:=dN b;have a:=e.resolve_left c;rw[mT _ _ rfl (qH a.1 a.2 (.inl rfl))];show(⟨false,(d.lines.map fun l=>(l.1,[])).map (lnF t),0,0,[]⟩:Val)=⟨false,(d.lines.map (lineR t m)).map (fun l=>(l.1,[])),0,0,[]⟩;rw[jq,jq]
 grind[List.map_congr_left,pc,lnF,lineR,StOk,docOk,aN]
theorem val2(g:StOk 1 t)(e:StOk 2 m)(b:docOk d=true)(c:m≠[(6,0)])(K:List Cel)(w:Int)(s:List UInt8):runS m (bV 2 d)=bV 2 ⟨d.lines.map (lineR t m),K,w,s⟩:=by
 have f:=dN b;have a:=e.resolve_left c;rw[mT _ _ rfl (qH a.1 a.2 (.inr (.inl rfl)))];show(⟨false,(d.lines.map fun l=>([],[l.2])).map (lnF m),0,0,[]⟩:Val)=⟨false,(d.lines.map (lineR t m)).map (fun l=>([],[l.2])),0,0,[]⟩;rw[jq,jq]
 grind[List.map_congr_left,pc,lnF,lineR,StOk,docOk,aN]
theorem val3{k:List Stp}(g:StOk 3 k)(b:docOk d=true)(e:k≠[(6,0)])(L:List DLn)(w:Int)(s:List UInt8):runS k (bV 3 d)=bV 3 ⟨L,d.cells.map (cellR k),w,s⟩:=by
 have h:=dN b;have a:=g.resolve_left e;rw[mT _ _ rfl (qH a.1 a.2 (.inr (.inr rfl)))];show(⟨false,((d.cells.filter (keepQ false)).map fun c=>([],[c.row,c.col,c.value])).map (lnF k),0,0,[]⟩:Val)=⟨false,((d.cells.map (cellR k)).filter (keepQ false)).map (fun c=>([],[c.row,c.col,c.value])),0,0,[]⟩
 have f:(keepQ false∘cellR k)=keepQ false:=by
  funext c
  show((cellR k c).sum==false)=(c.sum==false);rw[(e8 _ c).1]
 rw[List.filter_map,f,jq,jq]
 grind[List.map_congr_left,e8,wc,keepQ,lnF,cellR,StOk,docOk,aN]
theorem Dm(b:a.all aX=true){e:Dc}(j:docOk d=true)(l:runD a d=some e)(n:1<=p/\p<=8):
  bJ a p=[(6,0)]\/runS (bJ a p) (bV p d)=bV p e:=by
 obtain⟨K,rfl,h⟩:=tU l;have u:=dN j;have A:=dE b (p:=1) oo;have B:=dE b (p:=2) oo;have D:=dE b (p:=3) oo;have E:=dE b (p:=4) oo;have q:=dE b (p:=5) oo;have s:=dE b (p:=7) oo;have s8:=dE b (p:=8) oo;have w:=(nw s.1 j).2
 have k:K.length=d.cells.length:=by
  rcases h with⟨_,rfl⟩ | ⟨_,_,rfl⟩
  ·exact qa _
  ·rw[frzR,qa,qao,ff,qd1];exact qa _
 rcases p8 n with rfl | rfl | rfl | rfl | rfl | rfl | rfl | rfl
 ·grind[iQ,val1,aE,bJ,runS,bV,midD,rasV,aX]
 ·grind[iQ,val2,aE,bJ,runS,bV,midD,rasV,aX]
 ·grind[iP,decide_eq_false,val3,iO,decide_eq_true,aE,bJ,runS,bV,midD,rasV,aX]
 ·rw[iQ oo oo oo];rcases h with⟨i,rfl⟩ | ⟨i,-,rfl⟩
  ·right;rw[sF i];show(⟨false,(d.cells.filter (keepQ true)).map (fun c=>([],[c.row,c.col,c.top,c.left])),0,0,[]⟩:Val)=⟨false,((d.cells.map (cellR (aE 3 a))).filter (keepQ true)).map (fun c=>([],[c.row,c.col,c.top,c.left])),0,0,[]⟩
   have o:(keepQ true∘cellR (aE 3 a))=keepQ true:=by
    funext c
    show((cellR (aE 3 a) c).sum==true)=(c.sum==true);rw[(e8 _ c).1]
   rw[List.filter_map,o,jq]
   congr 1
   refine jp fun c y=>?_
   have f:=e8 (aE 3 a) c;show([],[c.row,c.col,c.top,c.left])=(([],[(cellR (aE 3 a) c).row,(cellR (aE 3 a) c).col,(cellR (aE 3 a) c).top,(cellR (aE 3 a) c).left]):Ln);rw[f.2.1,f.2.2.1,f.2.2.2.1,f.2.2.2.2.1]
  grind
 ·by_cases g:0 < (aE 3 a).length
  ·grind[iO,decide_eq_true]
  ·right;rw[iP (.inr ⟨rfl,rfl⟩) (decide_eq_false g),q.2.2.2.2 rfl]
   have m:(midD a d).cells=d.cells:=by
    show d.cells.map (cellR (aE 3 a))=_;rw[sF g]
    conv=>rhs;rw[<-qc9 d.cells]
    exact jp fun c _=>uQ c
   rw[m]at h;show(⟨false,(d.cells.zip (valsF d.cells)).map (fun x=>([],[x.1.row,x.1.col,x.2])),0,0,[]⟩:Val)=⟨false,(K.zip (valsF K)).map (fun x=>([],[x.1.row,x.1.col,x.2])),0,0,[]⟩
   grind[Ci,yeb,qU,ff]
 ·grind[bJ,runS,bV,midD,rasV,aX]
 ·grind[bJ,runS,bV,midD,rasV,aX]
 ·right;rw[iQ oo oo oo,s8.2.2.2.2 rfl]
  grind[runS,bV,midD,rasV,aX,docOk]
theorem run_make{m:Mig}(j:migOk m=true){e:Dc}(c:docOk d=true)(i:runD m.keep d=some e):ep m d e=true:=by
 have f:m.keep.all aX=true:=by
  simp only[migOk,qd]at j;exact j.2.2.2.2.2
 have q:=ru f c i
 have p:(bR m.keep).all (chkAt (allB d) (allB e))=true:=by
  rw[qp];intro x s;obtain⟨k,g,rfl⟩:=qz.1 s;have a:k < 8:=qce.1 g;have b:1<=(k:Int)+1/\(k:Int)+1<=8:=by omega
  unfold chkAt;rcases Dm f c i b with h | h
  ·rw[decide_eq_true (show((k:Int)+1,bJ m.keep ((k:Int)+1)).2=[(6,0)]from h)];rfl
  ·have l:atV (allB d) ((k:Int)+1)=propB ((k:Int)+1) d:=by
    unfold atV;rw[show((k:Int)+1 - 1).toNat=k by omega,lU d k a];rfl
   have n:atV (allB e) ((k:Int)+1)=propB ((k:Int)+1) e:=by
    unfold atV;rw[show((k:Int)+1 - 1).toNat=k by omega,lU e k a];rfl
   have o:dp ((k:Int)+1) (bJ m.keep ((k:Int)+1)) (atV (allB d) ((k:Int)+1))=(atV (allB e) ((k:Int)+1),0):=by
    rw[l,n,iF b,iF b,sU (rW f b).1 (jT b c),h]
   show(_||(decide ((dp ((k:Int)+1) (bJ m.keep ((k:Int)+1)) (atV (allB d) ((k:Int)+1))).2=0)&&decide ((dp ((k:Int)+1) (bJ m.keep ((k:Int)+1)) (atV (allB d) ((k:Int)+1))).1=atV (allB e) ((k:Int)+1))))=true;rw[o];simp
 grind[lG,Da]
def mrd(s:List UInt8)(p:Int):Ent:=.one (.cells 228 [.str s,.int .i64 p])
theorem dg{n:Nat}(s:List UInt8)(p:Int):(mrd s p).below n:=(SB.bB_ok rfl:SB.below n (.cells 228 [.str s,.int .i64 p]))
theorem fx(F:Fz)(s:List UInt8)(p n x:Int)(f:s.length<=1000000000000000000)(e:i64 p)(d:getI s p=(n,x,0)):
  Ct prog 90 [.va (.ptr ⟨1,0,0,0,0⟩)] F [(1,mrd s p)] 2
   (fun o b c n0=>F=b/\n0=2/\o=.ret (.va (.int .i64 n))/\c=[(1,mrd s x)]):=by
 have a:=nk F s p f e;rw[d]at a;refine ctS func90 ?_;refine dwS (lk [0,1,2,3,4,5,6,7] (.alt 8 (lk [9,10,11,12,13,14,15] .done) .nil)) [1] ?_;conv=>whnf
 repeat' ((conv=>whnf);first
  |refine⟨rfl,?_⟩
  |refine⟨Fz.r _,rfl,?_⟩
  |refine⟨Fz.r _,rfl,rfl,?_⟩
  |refine⟨⟨by simp,by simp⟩,?_⟩
  |fail)
 refine usePs (a) ?_;refine⟨Fz.r F,rfl,bre ss ?_⟩;exact clean [] (.ret (.va (.int .i64 n))) F [(1,mrd s x)] 2 ⟨Fz.r F,rfl,rfl,rfl,rfl⟩ (aP _) rfl rfl trivial ⟨dg s _,tv⟩ ⟨Fz.r F,rfl,tv⟩
theorem qS(F:Fz)(s:List UInt8)(p x:Int)(t:List UInt8)(f:s.length<=1000000000000000000)(e:i64 p)(d:getS s p=(t,x,0)):
  Ct prog 91 [.va (.ptr ⟨1,0,0,0,0⟩)] F [(1,mrd s p)] 2
   (fun o b c n0=>F=b/\n0=2/\o=.ret (.va (.str t))/\c=[(1,mrd s x)]):=by
 have a:=o5 F s p f e;rw[d]at a;refine ctS func91 ?_;refine dwS (lk [0,1,2,3,4,5,6,7] (.alt 8 (lk [9,10,11,12,13,14,15] .done) .nil)) [1] ?_;conv=>whnf
 repeat' ((conv=>whnf);first
  |refine⟨rfl,?_⟩
  |refine⟨Fz.r _,rfl,?_⟩
  |refine⟨Fz.r _,rfl,rfl,?_⟩
  |refine⟨⟨by simp,by simp⟩,?_⟩
  |fail)
 refine usePs (a) ?_;refine⟨Fz.r F,rfl,bre ss ?_⟩;exact clean [] (.ret (.va (.str t))) F [(1,mrd s x)] 2 ⟨Fz.r F,rfl,rfl,rfl,rfl⟩ (aP _) rfl rfl trivial ⟨dg s _,tv⟩ ⟨Fz.r F,rfl,tv⟩
def rwE{α:Type}(q:Bool)(t sz:Nat)(e:α->List SA)(c:Nat)(l:List α):Ent:=.opt (!q) (.arr t sz (l.map e) c)
variable {α:Type}{e:α->List SA}
theorem no(a:Plain e)(q:Bool)(t sz c:Nat)(μ:Mu)(l:List α):(rwE q t sz e c l).ren μ=rwE q t sz e c l:=by
 show Ent.opt _ (SB.ren μ _)=_;rw[cY a rfl];rfl
theorem aS(a:Plain e)(q:Bool)(t sz n c:Nat)(l:List α):(rwE q t sz e c l).below n:=cF a t sz n c l
variable {q:Bool}{c sz:Nat}{l:List α}
theorem aJ(a:Plain e){t:Nat}{μ:Mu}{x:Option Ent}(h:subE x (rwE q t sz e c l)):subE x ((rwE q t sz e c l).ren μ):=by rw[no a];exact h
theorem aO(q:Bool)(t sz c:Nat)(l:List α):subE (some (rwE q t sz e c l)) (rwE q t sz e c l):=⟨rfl,rfl⟩
theorem nm{t:Nat}(L:List (List SA))(h:L=l.map e):subE (some (.one (.arr t sz L c))) (rwE q t sz e c l):=by rw[h];exact rfl
theorem dU(a:Plain e){t:Nat}{μ ν:Mu}:subE (some ((rwE q t sz e c l).ren ν)) ((rwE q t sz e c l).ren μ):=by
 rw[no a,no a];exact aO _ _ _ _ _
theorem ER(F:Fz)(p:Bool)(s w u:Nat)(l:List DLn)(I:Sl F 148 2 encN (.slice p 0 s w 2 l.length u) l)(y:l.length<=1000):
  Ct prog 86 [.va (.slice p 0 s w 2 l.length u)] F [] 1
   (fun o A G n0=>F=A/\n0=2/\∃q c,(q=true->l=[])/\l.length<=c/\o=.ret (.va (.slice q 1 0 0 2 l.length c))/\G=[(1,rwE q 148 2 encN c l)]):=by
 obtain⟨J,B,E,D,L,b,k,f,g,d,e⟩:=I;cases k
 rcases p with _ | _
 ·have a:=g rfl;rcases l with _ | ⟨x,r⟩
  ·refine ctS func86 ?_;refine brd dd ⟨148,L,b,a,d,[],e,rfl,rfl,rfl,by decide,fun c i=>?_⟩;exact clean [(1,2)] (.ret (.va (.slice false 1 0 0 2 0 c))) F [(1,rwE false 148 2 encN c [])] 2 ⟨Fz.r F,rfl,rfl,false,c,fun h=>(nomatch h),jx _,rfl,rfl⟩ ⟨rfl,rfl,rfl,.inr ⟨rfl,rfl,rfl,rfl⟩⟩ rfl rfl (.inr dd) ⟨aS aG _ _ _ _ _ _,tv⟩ ⟨Fz.r F,aJ aG (nm (q:=false) (l:=[]) _ rfl),tv⟩
  ·replace y:r.length+1<=1000:=y;have n:(0+((x::r).map encN).length)*24<=140737488355328:=by rw[qa,qe];omega
   refine ctS func86 ?_;refine brd dd ⟨148,L,b,a,d,(x::r).map encN,e,rfl,rfl,rfl,n,fun c' i=>?_⟩;have j:=i;clear i;exact clean [(1,2)] (.ret (.va (.slice false 1 0 0 2 (x::r).length c'))) F [(1,rwE false 148 2 encN c' (x::r))] 2 ⟨Fz.r F,rfl,rfl,false,c',fun h=>(nomatch h),by simpa using j,rfl,rfl⟩ ⟨rfl,(by first | rfl | (rw[qa];omega)),(by first | rfl | (rw[qa];omega)),.inr ⟨rfl,rfl,rfl,rfl⟩⟩ rfl rfl (.inr dd) ⟨aS aG _ _ _ _ _ _,tv⟩ ⟨Fz.r F,aJ aG (nm (q:=false) (l:=x::r) _ rfl),tv⟩
 ·have m:=f rfl;subst m;refine ctS func86 ?_;refine bre dd ?_;refine rO (fun _=>trivial) ?_;exact clean [(1,1)] (.ret (.va (.slice true 1 0 0 2 0 0))) F [(1,rwE true 148 2 encN 0 [])] 2 ⟨Fz.r F,rfl,rfl,true,0,fun _=>rfl,qi _,rfl,rfl⟩ ⟨rfl,rfl,rfl⟩ rfl rfl (.inl rfl) ⟨aS aG _ _ _ _ _ _,tv⟩ ⟨Fz.r F,rfl,tv⟩
theorem EQ(F:Fz)(p:Bool)(s w u:Nat)(l:List Cel)(I:Sl F 151 6 encK (.slice p 0 s w 6 l.length u) l)(y:l.length<=1000):
  Ct prog 87 [.va (.slice p 0 s w 6 l.length u)] F [] 1
   (fun o A G n0=>F=A/\n0=2/\∃q c,(q=true->l=[])/\l.length<=c/\o=.ret (.va (.slice q 1 0 0 6 l.length c))/\G=[(1,rwE q 151 6 encK c l)]):=by
 obtain⟨J,B,E,D,L,b,k,f,g,d,e⟩:=I;cases k
 rcases p with _ | _
 ·have a:=g rfl;rcases l with _ | ⟨x,r⟩
  ·refine ctS func87 ?_;refine brd dd ⟨151,L,b,a,d,[],e,rfl,rfl,rfl,by decide,fun c i=>?_⟩;exact clean [(1,2)] (.ret (.va (.slice false 1 0 0 6 0 c))) F [(1,rwE false 151 6 encK c [])] 2 ⟨Fz.r F,rfl,rfl,false,c,fun h=>(nomatch h),jx _,rfl,rfl⟩ ⟨rfl,rfl,rfl,.inr ⟨rfl,rfl,rfl,rfl⟩⟩ rfl rfl (.inr dd) ⟨aS aC _ _ _ _ _ _,tv⟩ ⟨Fz.r F,aJ aC (nm (q:=false) (l:=[]) _ rfl),tv⟩
  ·replace y:r.length+1<=1000:=y;have n:(0+((x::r).map encK).length)*48<=140737488355328:=by rw[qa,qe];omega
   refine ctS func87 ?_;refine brd dd ⟨151,L,b,a,d,(x::r).map encK,e,rfl,rfl,rfl,n,fun c' i=>?_⟩;have j:=i;clear i;exact clean [(1,2)] (.ret (.va (.slice false 1 0 0 6 (x::r).length c'))) F [(1,rwE false 151 6 encK c' (x::r))] 2 ⟨Fz.r F,rfl,rfl,false,c',fun h=>(nomatch h),by simpa using j,rfl,rfl⟩ ⟨rfl,(by first | rfl | (rw[qa];omega)),(by first | rfl | (rw[qa];omega)),.inr ⟨rfl,rfl,rfl,rfl⟩⟩ rfl rfl (.inr dd) ⟨aS aC _ _ _ _ _ _,tv⟩ ⟨Fz.r F,aJ aC (nm (q:=false) (l:=x::r) _ rfl),tv⟩
 ·have m:=f rfl;subst m;refine ctS func87 ?_;refine bre dd ?_;refine rO (fun _=>trivial) ?_;exact clean [(1,1)] (.ret (.va (.slice true 1 0 0 6 0 0))) F [(1,rwE true 151 6 encK 0 [])] 2 ⟨Fz.r F,rfl,rfl,true,0,fun _=>rfl,qi _,rfl,rfl⟩ ⟨rfl,rfl,rfl⟩ rfl rfl (.inl rfl) ⟨aS aC _ _ _ _ _ _,tv⟩ ⟨Fz.r F,rfl,tv⟩
abbrev docB(c d:Bool)(l a k b:Nat)(w:Int)(s:List UInt8):SB:=.cells 41 [.slice c 2 0 0 2 l a,.slice d 3 0 0 6 k b,.int .i64 w,.str s]
abbrev docL(c d:Bool)(l a k b:Nat)(w:Int)(s:List UInt8):Ent:=.one (docB c d l a k b w s)
theorem cV{n:Nat}(h:3 < n)(e f:Bool)(l c k d:Nat)(w:Int)(s:List UInt8):(docL e f l c k d w s).below n:=by
 intro a b;simp only[qh,qq,or_false]at b;rcases b with rfl | rfl | rfl | rfl
 ·exact .inr oo
 ·exact .inr h
 ·trivial
 ·trivial
def mxl{α:Type}(A B:List α)(k:Nat):List α:=A.take k++B.drop k
variable {A B:List α}
theorem ml(h:A.length=B.length)(k:Nat):(mxl A B k).length=B.length:=by
 unfold mxl;rw[qb,qk,yj];omega
theorem gS(A B:List α):mxl A B 0=B:=by simp[mxl]
theorem gX(h:A.length=B.length):mxl A B B.length=A:=by
 unfold mxl;rw[qdd,qy,<-h,yp]
theorem re(h:A.length=B.length){k:Nat}(a:k < B.length):(mxl A B k)[k]? =some B[k]:=by
 unfold mxl;rw[jt (by rw[qk];omega),qk,yz];rw[show k+(k - min k A.length)=k by omega,qc a]
theorem rf(h:A.length=B.length){k:Nat}(a:k < B.length):(mxl A B k).set k (A[k]'oo)=mxl A B (k+1):=by
 unfold mxl;rw[qbo _ _ (by rw[qk];omega),qk,show k - min k A.length=0 by omega,jj a,qax,qf (show k < A.length by omega),qj];rfl
theorem gQ{a0:α}{ar:List α}(h:A.length=(a0::ar).length)(k:Nat):∃a c,a::c=mxl A (a0::ar) k:=by
 have h:=ml h k;cases b:mxl A (a0::ar) k with
 |nil=>rw[b]at h;simp at h
 |cons x r=>exact⟨x,r,rfl⟩
theorem ic{L:List α}(h:A.length=B.length){k:Nat}(b:k < B.length)(a:L=mxl A B k):(L.map e)[0+(k:Int).toNat]? =some (e B[k]):=by
 subst a;rw[qn,q9,qt,re h b];rfl
theorem gR{L:List α}(h:A.length=B.length){k:Nat}(b:k < B.length)(a:L=mxl A B k){x:List SA}(c:x=e (A[k]'oo)):(L.map e).set (0+(k:Int).toNat) x=(mxl A B (k+1)).map e:=by
 subst a c;rw[qn,q9,<-rf h b,qbw]
theorem po{L:List α}(h:A.length=B.length){k:Nat}(b:k < B.length)(a:L=mxl A B k){y:List SA}:((L.map e).set (0+(k:Int).toNat) y)[0+(k:Int).toNat]? =some y:=by
 rw[qn,q9,qcc];rw[qa,a,ml h];exact b
theorem o4(l:List α)(k:Nat)(x y:α):(l.set k x).set k y=l.set k y:=by simp
theorem rw_op{t:Nat}{b:Bool}{L:List (List SA)}(a:b= !q)(h:L=l.map e):subE (some (.opt b (.arr t sz L c))) (rwE q t sz e c l):=by
 subst a h;exact⟨rfl,rfl⟩
theorem rw_of{t:Nat}{a:List α}(h:l=a):subE (some (rwE q t sz e c l)) (rwE q t sz e c a):=by
 subst h;exact aO _ _ _ _ _
abbrev hpL(c d:Bool)(a b:Nat)(L:List DLn)(K:List Cel)(w:Int)(s:List UInt8):List (Nat×Ent):=[(1,docL c d L.length a K.length b w s),(2,rwE c 148 2 encN a L),(3,rwE d 151 6 encK b K)]
theorem dD{n:Nat}(h:3 < n)(c d:Bool)(a b:Nat)(L:List DLn)(K:List Cel)(w:Int)(s:List UInt8):bH n (hpL c d a b L K w s):=
 ⟨cV h _ _ _ _ _ _ _ _,aS aG _ _ _ _ _ _,aS aC _ _ _ _ _ _,tv⟩
theorem go{a:α}(h:q=true->a::l=[]):q=false:=by cases q with
 |true=>cases h rfl
 |false=>rfl
abbrev finL(d e:Bool)(a b:Nat)(L:List DLn)(K:List Cel)(w:Int)(s:List UInt8):Out->Fz->List (Nat×Ent)->Nat->Prop:=fun o _ c n0=>n0=4/\o=.ret (.tup [])/\c=hpL d e a b L K w s
abbrev setL(n:Nat)(l:DLn):DLn:=if n=1 then([],l.2)else(l.1,0)
theorem BQ(F:Fz)(n f:Bool)(c d:Nat)(L A:List DLn)(K:List Cel)(w:Int)(s:List UInt8)(T:n=true->L=[])(S:L.length<=1000)(D:A=L.map (setL 1)):
  Ct prog 89 [.va .nilptr,.va (.ptr ⟨1,0,0,0,0⟩)] F (hpL n f c d L K w s) 4 (finL n f c d A K w s):=by
 have a:A.length=L.length:=by rw[D,qa]
 have E:∀k (h:k < L.length),A[k]'oo=setL 1 L[k]:=fun k h=>by subst D;rw[yv]
 clear D;rcases L with _ | ⟨a0,ar⟩
 ·obtain rfl:A=[]:=ji a;refine ctS func89 ?_;conv=>whnf
  refine aH hΘ (X:=Unit) (fun x=>[(11,.va (.int .i64 0))]) (3::jr 12 17 [])
   (fun x=>[(0,.frz F),(1,docL n f 0 c K.length d w s),(2,rwE n 148 2 encN c []),(3,rwE f 151 6 encK d K)]) 4 (fun x=>0) ()
   (fun l m=>leI [] l m rfl ⟨tv,cV oo _ _ _ _ _ _ _ _,aS aG _ _ _ _ _ _,aS aC _ _ _ _ _ _,tv⟩ ⟨rfl,tv⟩ ⟨Fz.r F,rfl,aJ aG (aO _ _ _ _ _),aJ aC (aO _ _ _ _ _),tv⟩) ?_
  rintro⟨⟩ l m;refine brd dd ?_;exact clean [] (.ret (.tup [])) F (hpL n f c d [] K w s) 4 ⟨Fz.r F,rfl,rfl,rfl⟩ (aP _) rfl rfl (by simp[Out.below,SV.below]) (dD oo _ _ _ _ _ _ _ _) ⟨Fz.r F,rfl,aJ aG (aO _ _ _ _ _),aJ aC (aO _ _ _ _ _),tv⟩
 ·obtain rfl:=go T;refine ctS func89 ?_;conv=>whnf
  refine aH hΘ (X:={ y:Nat×DLn×List DLn // y.1<=ar.length+1/\y.2.1::y.2.2=mxl A (a0::ar) y.1 }) (fun y=>[(11,.va (.int .i64 y.1.1))]) (3::jr 12 17 [])
   (fun y=>[(0,.frz F),(1,docL false f (ar.length+1) c K.length d w s),(2,rwE false 148 2 encN c (y.1.2.1::y.1.2.2)),(3,rwE f 151 6 encK d K)]) 4 (fun y=>ar.length+1 - y.1.1) ⟨(0,a0,ar),jx _,(gS _ _).symm⟩
   (fun l m=>leI [] l m rfl ⟨tv,cV oo _ _ _ _ _ _ _ _,aS aG _ _ _ _ _ _,aS aC _ _ _ _ _ _,tv⟩ ⟨rfl,tv⟩ ⟨Fz.r F,rfl,aJ aG (aO _ _ _ _ _),aJ aC (aO _ _ _ _ _),tv⟩) ?_
  rintro⟨⟨k,J,I⟩,M,b⟩ l m;replace M:k<=ar.length+1:=M;replace b:J::I=mxl A (a0::ar) k:=b
  have O:I.length=ar.length:=by
   have:=ml a k;rw[<-b]at this;simpa using this
  by_cases g:k < ar.length+1
  ·have B:(k:Int) < ((ar.length+1:Nat):Int):=by omega
   have o:ar.length+1 - (k+1) < ar.length+1 - k:=by omega
   have q:k < 4611686018427387904:=by have:ar.length+1<=1000:=S;omega
   have G:=ic (e:=encN) a g b;have j:=fun x=>gR (e:=encN) (x:=x) a g b
   rw[E k g]at j;have R:=gQ a (k+1);obtain⟨Q,U,u⟩:=R;rw[<-u]at j;refine bri B ⟨rfl,⟨jz k,B⟩,rfl,_,G,?_⟩
   exact⟨⟨(k+1,Q,U),g,u⟩,o,leR [] l m rfl ⟨tv,cV oo _ _ _ _ _ _ _ _,aS aG _ _ _ _ _ _,aS aC _ _ _ _ _ _,tv⟩ ⟨cnt q,tv⟩
    ⟨Fz.r F,rfl,aJ aG (rw_op rfl (j _ rfl)),aJ aC (aO _ _ _ _ _),tv⟩⟩
  ·have B:¬(k:Int) < ((ar.length+1:Nat):Int):=by omega
   have p:J::I=A:=by
    rw[b,show k=(a0::ar).length by show k=ar.length+1;omega,gX a]
   have i:docB false f (ar.length+1) c K.length d w s=(docB false f A.length c K.length d w s).ren (sig []):=by rw[a];rfl
   refine brj B ?_
   exact clean [] (.ret (.tup [])) F (hpL false f c d A K w s) 4 ⟨Fz.r F,rfl,rfl,rfl⟩ (aP _) rfl rfl (by simp[Out.below,SV.below]) (dD oo _ _ _ _ _ _ _ _)
    ⟨Fz.r F,i,aJ aG (rw_of p),aJ aC (aO _ _ _ _ _),tv⟩
theorem BS(F:Fz)(n f:Bool)(c d:Nat)(L A:List DLn)(K:List Cel)(w:Int)(s:List UInt8)(T:n=true->L=[])(S:L.length<=1000)(D:A=L.map (setL 2)):
  Ct prog 92 [.va .nilptr,.va (.ptr ⟨1,0,0,0,0⟩)] F (hpL n f c d L K w s) 4 (finL n f c d A K w s):=by
 have a:A.length=L.length:=by rw[D,qa]
 have E:∀k (h:k < L.length),A[k]'oo=setL 2 L[k]:=fun k h=>by subst D;rw[yv]
 clear D;rcases L with _ | ⟨a0,ar⟩
 ·obtain rfl:A=[]:=ji a;refine ctS func92 ?_;conv=>whnf
  refine aH hΘ (X:=Unit) (fun x=>[(11,.va (.int .i64 0))]) (3::jr 12 17 [])
   (fun x=>[(0,.frz F),(1,docL n f 0 c K.length d w s),(2,rwE n 148 2 encN c []),(3,rwE f 151 6 encK d K)]) 4 (fun x=>0) ()
   (fun l m=>leI [] l m rfl ⟨tv,cV oo _ _ _ _ _ _ _ _,aS aG _ _ _ _ _ _,aS aC _ _ _ _ _ _,tv⟩ ⟨rfl,tv⟩ ⟨Fz.r F,rfl,aJ aG (aO _ _ _ _ _),aJ aC (aO _ _ _ _ _),tv⟩) ?_
  rintro⟨⟩ l m;refine brd dd ?_;exact clean [] (.ret (.tup [])) F (hpL n f c d [] K w s) 4 ⟨Fz.r F,rfl,rfl,rfl⟩ (aP _) rfl rfl (by simp[Out.below,SV.below]) (dD oo _ _ _ _ _ _ _ _) ⟨Fz.r F,rfl,aJ aG (aO _ _ _ _ _),aJ aC (aO _ _ _ _ _),tv⟩
 ·obtain rfl:=go T;refine ctS func92 ?_;conv=>whnf
  refine aH hΘ (X:={ y:Nat×DLn×List DLn // y.1<=ar.length+1/\y.2.1::y.2.2=mxl A (a0::ar) y.1 }) (fun y=>[(11,.va (.int .i64 y.1.1))]) (3::jr 12 17 [])
   (fun y=>[(0,.frz F),(1,docL false f (ar.length+1) c K.length d w s),(2,rwE false 148 2 encN c (y.1.2.1::y.1.2.2)),(3,rwE f 151 6 encK d K)]) 4 (fun y=>ar.length+1 - y.1.1) ⟨(0,a0,ar),jx _,(gS _ _).symm⟩
   (fun l m=>leI [] l m rfl ⟨tv,cV oo _ _ _ _ _ _ _ _,aS aG _ _ _ _ _ _,aS aC _ _ _ _ _ _,tv⟩ ⟨rfl,tv⟩ ⟨Fz.r F,rfl,aJ aG (aO _ _ _ _ _),aJ aC (aO _ _ _ _ _),tv⟩) ?_
  rintro⟨⟨k,J,I⟩,M,b⟩ l m;replace M:k<=ar.length+1:=M;replace b:J::I=mxl A (a0::ar) k:=b
  have O:I.length=ar.length:=by
   have:=ml a k;rw[<-b]at this;simpa using this
  by_cases g:k < ar.length+1
  ·have B:(k:Int) < ((ar.length+1:Nat):Int):=by omega
   have o:ar.length+1 - (k+1) < ar.length+1 - k:=by omega
   have q:k < 4611686018427387904:=by have:ar.length+1<=1000:=S;omega
   have G:=ic (e:=encN) a g b;have j:=fun x=>gR (e:=encN) (x:=x) a g b
   rw[E k g]at j;have R:=gQ a (k+1);obtain⟨Q,U,u⟩:=R;rw[<-u]at j;refine bri B ⟨rfl,⟨jz k,B⟩,rfl,_,G,?_⟩
   exact⟨⟨(k+1,Q,U),g,u⟩,o,leR [] l m rfl ⟨tv,cV oo _ _ _ _ _ _ _ _,aS aG _ _ _ _ _ _,aS aC _ _ _ _ _ _,tv⟩ ⟨cnt q,tv⟩
    ⟨Fz.r F,rfl,aJ aG (rw_op rfl (j _ rfl)),aJ aC (aO _ _ _ _ _),tv⟩⟩
  ·have B:¬(k:Int) < ((ar.length+1:Nat):Int):=by omega
   have p:J::I=A:=by
    rw[b,show k=(a0::ar).length by show k=ar.length+1;omega,gX a]
   have i:docB false f (ar.length+1) c K.length d w s=(docB false f A.length c K.length d w s).ren (sig []):=by rw[a];rfl
   refine brj B ?_
   exact clean [] (.ret (.tup [])) F (hpL false f c d A K w s) 4 ⟨Fz.r F,rfl,rfl,rfl⟩ (aP _) rfl rfl (by simp[Out.below,SV.below]) (dD oo _ _ _ _ _ _ _ _)
    ⟨Fz.r F,i,aJ aG (rw_of p),aJ aC (aO _ _ _ _ _),tv⟩
