import Derived.Test.YtfnkamphhpldcaaGreatDoorK02
set_option maxHeartbeats 64000000
namespace Sx
open Go
section
variable {P:Program} {Θ:Tys} {C:Ctx} {ρ:Rho} {h:Hp} {nx:Nat} {w:World} {K:Kt}
def base(h:Hp)(i k e sz b len cap:Nat)(F:List (List SA)->Prop):Prop:=
 match lget h i with
 |some (.one (.arr t sz' L room))=>(match k with
  |0=>match Nat.beq sz sz',Nat.beq t b with
   |true,true=>e=0/\len=L.length/\cap=room/\F L
   |_,_=>False
  |_+1=>False)
 |some (.opt c (.arr t sz' L room))=>c=true/\(match k with
  |0=>match Nat.beq sz sz',Nat.beq t b with
   |true,true=>e=0/\len=L.length/\cap=room/\F L
   |_,_=>False
  |_+1=>False)
 |some (.fam m c f)=>(match k with
  |0=>(match f 0 with
   |.arr t sz' L room=>(match Nat.beq sz sz',Nat.beq t b with
    |true,true=>(0 < m/\c 0=true)/\e=0/\len<=L.length/\cap=room/\F (L.take len)
    |_,_=>False)
   |_=>False)
  |_+1=>False)
 |_=>False
theorem CE{α:Type}(L:List (List α))(n:Nat):L.flatten=(L.take n).flatten++(L.drop n).flatten:=by
 rw[<-yu,yl]
theorem At{ρ:Rho}{t sz a:Nat}{L:List (List SA)}{o:Obj}(n:Nat)(h:(SB.arr t sz L a).ok ρ o):(SB.arr t sz (L.take n) a).ok ρ o:=by
 obtain⟨d,g,b,f,e⟩:=h;refine⟨fun x c=>d x (yh c),?_,(L.drop n).flatten.map (SA.den ρ)++b,?_,?_⟩
 ·rw[qk];omega
 ·rw[qb,qa,f];have h1:(L.drop n).flatten.length=(L.drop n).length*sz:=gh _ (fun x c=>d x (qas c));rw[h1,yj,qk,<-qbi]
  congr 1;omega
 ·rw[CE L n,qo,qj]at e;exact e
def oX(Θ:Tys)(ts:List TypeId)(x y:SV)(h:Hp)(nx:Nat)(K:Kt):Prop:=
 match ts with
 |[tx,ty]=>match Θ tx,x with
  |some ⟨.slice elem,_,_,_⟩,.va (.slice nil i k e sz len cap)=>match Θ elem with
   |some j=>match j.size,j.bytes with
    |0,_=>False
    |_,0=>False
    |_,_=>src Θ ty y j.size h fun X=>match nil with
     |true=>len=0/\cap=0/\(match X with
      |[]=>K (.va .nilsl) h nx
      |x0::X'=>(x0::X').length*j.bytes<=140737488355328/\∀c,(x0::X').length<=c->K (.va (.slice false nx 0 0 j.size (x0::X').length c)) (lput h nx (.one (.arr elem j.size (x0::X') c))) (nx+1))
     |false=>match Nat.beq sz j.size with
      |true=>base h i k e sz elem len cap fun L=>(len+X.length)*j.bytes<=140737488355328/\∀c,len+X.length<=c->
        K (.va (.slice false nx 0 0 j.size (len+X.length) c)) (lput (lput h i .gone) nx (.one (.arr elem j.size (L++X) c))) (nx+1)
      |false=>False
   |none=>False
  |_,_=>False
 |_=>False
def oY(Θ:Tys)(ts:List TypeId)(x y:SV)(h:Hp)(nx:Nat)(K:Kt):Prop:=
 match ts with
 |[tx,ty]=>match Θ tx,Θ ty,x,y with
  |some ⟨.slice elem,_,_,_⟩,some ⟨.int .i64,_,_,_⟩,.va (.slice true _ _ _ _ len cap),.va (.int .i64 n)=>match Θ elem with
   |some j=>match j.size,j.bytes with
    |0,_=>False
    |_,0=>False
    |_,_=>len=0/\cap=0/\0 < n/\n*j.bytes<=140737488355328/\∀c,n.toNat<=c->K (.va (.slice false nx 0 0 j.size n.toNat c)) (lput h nx (.one (.arr elem j.size [] c))) (nx+1)
   |none=>False
  |_,_,_,_=>False
 |_=>False
def lx(Θ:Tys)(ts:List TypeId)(x y:SV)(h:Hp)(nx:Nat)(K:Kt):Prop:=
 match y with
 |.va (.int _ _)=>oY Θ ts x y h nx K
 |_=>oX Θ ts x y h nx K
def pw(Θ:Tys)(ts:List TypeId)(x y:SV)(h:Hp)(nx:Nat)(K:Kt):Prop:=
 match x with
 |.va .nilsl=>lx Θ ts (.va (.slice true 0 0 0 0 0 0)) y h nx K
 |x=>lx Θ ts x y h nx K
theorem nO(zs:List Value)(n:Nat):(Builtin.zeroCells zs.toArray n).toList.length=n*zs.length:=by
 simp[Builtin.zeroCells]
theorem wo(p ty ty' d:TypeId)(f:TypeInfo)(z:Value)(B:P.underlying p=some (.slice d))(y:P.info? d=some f)(E:f.zero=some z)
  (D:(∃e,P.underlying ty=some (.slice e))\/P.underlying ty=some .string)
  (b:Option Addr)(a c n:Nat)(x:Value)(i g:List Value)
  (l:∀q,(Builtin.lenOf x).run P q=.ok n q)
  (m:(Builtin.firstCells f.size a (.slice b a c)).run P w.drew=.ok i.toArray w.drew)
  (u:(Builtin.firstCells f.size n x).run P w.drew=.ok g.toArray w.drew)
  (G:c < a+n)(s:((a+n:Nat):Int)<=9223372036854775807)(o:Builtin.nextslicecap (a+n) c*f.bytes<=281474976710656):
  (Builtin.append_ #[p,ty] ty' #[.slice b a c,x]).run P w=
   .ok (.slice (some ⟨w.heap.size,0,none⟩) (a+n) (grownCap w (a+n) c d))
    (w.drew.alloc (.cells (i.toArray++g.toArray++Builtin.zeroCells z.cells (grownCap w (a+n) c d - (a+n))) d)):=by
 have A:¬(a+n<=c):=by omega
 have k:¬(9223372036854775807 < ((a:Int)+(n:Int))):=by omega
 have j:¬(281474976710656 < Builtin.nextslicecap (a+n) c*f.bytes):=by omega
 rcases D with⟨e',hd⟩ | hd<;>simp[Builtin.append_,run_underlying B,run_underlying hd,Go.sizeOf,typeInfo,zeroValue,y,E,l,A,k,j,Question.forced,u,m,newRow,grownCap]
 all_goals(congr 2;apply Array.ext';simp)
theorem Ar(p ty ty' j:TypeId)(f:TypeInfo)(E:P.underlying p=some (.slice j))(B:P.info? j=some f)
  (G:(∃e,P.underlying ty=some (.slice e))\/P.underlying ty=some .string)
  (g t:Nat)(c i n:Nat)(x:Value)(d b a:List Value)
  (k:∀q,(Builtin.lenOf x).run P q=.ok n q)
  (y:(Builtin.firstCells f.size n x).run P w=.ok b.toArray w)(m:RowAt w g t (d++a))(l:d.length=c*f.size)(D:b.length<=a.length)
  (h1:∀v∈b,v.oneCell'=true)(A:c+n<=i):
  (Builtin.append_ #[p,ty] ty' #[.slice (some ⟨g,0,none⟩) c i,x]).run P w=
   .ok (.slice (some ⟨g,0,none⟩) (c+n) i) (w.setRow g (d++b++a.drop b.length).toArray):=by
 have o:=jB (P:=P) g (c*f.size) t b 0 _ w m (by simp;omega) h1;have s:List.take (c*f.size+0) (d++a)=d:=by rw[qap,<-l];simp
 have u:List.drop (c*f.size+0+b.length) (d++a)=a.drop b.length:=by rw[qap,<-l];simp[List.drop_append]
 rw[s,u]at o;rcases G with⟨e',hd⟩ | hd<;>simp[Builtin.append_,run_underlying E,run_underlying hd,Go.sizeOf,typeInfo,B,k,A,y,addr_add,o]
theorem wQ{t:TypeId}{j:TI}(b:TI.ok P t j)(a:TypeId)(Y:List (List SA))(d:∀x∈Y,x.length=j.size)(c:Nat)(e:Y.length<=c):
  (SB.arr a j.size Y c).ok ρ (.cells ((Y.flatten.map (SA.den ρ)).toArray++Builtin.zeroCells (zval ρ j).cells (c - Y.length)) a (0,0)):=by
 refine⟨d,e,(Builtin.zeroCells (zval ρ j).cells (c - Y.length)).toList,?_,(0,0),NoFr.zero _,?_⟩
 ·rw[jN b ρ,nO];simp[b.len]
 ·congr 1;apply Array.ext';simp
theorem Dd(hΘ:Θ.Ok P){ts:List TypeId}{ty':TypeId}{x y:SV}{v u:Value}(S:oX Θ ts x y h nx K)(s:Sat C ρ h nx w)(hr:x.rel ρ v)(a4:y.rel ρ u):
  Yld P (Builtin.append_ ts.toArray ty' #[v,u]) C ρ nx w K:=by
 unfold oX at S;split at S
 ·rename_i tx ty;split at S
  ·rename_i d a b c nil i k e sz len cap hi;split at S
   ·rename_i j hj;split at S
    ·exact S.elim
    ·exact S.elim
    ·rename_i a5 an;obtain⟨X,g,aa,aj,B,hf,hu⟩:=Ab hΘ S s a4;obtain⟨V,G,n,Y,aq⟩:=(hΘ d j hj).inf
     have J:1<=j.bytes:=by
      rcases qbl j.bytes with h0 | h0
      ·exact absurd h0 (fun h0=>an h0)
      ·exact h0
     have ht:=(hΘ tx _ hi).und;have ak:=gh X aa;have M:(w.drew).heap=w.heap:=rfl;split at g
     ·
      obtain⟨h0,h1,g⟩:=g;subst h0;subst h1;simp only[SV.rel,SA.den,if_true]at hr;subst hr;cases X with
      |nil=>
       have ao:=hf w rfl;refine Yld.same s (.slice none 0 0) (.va .nilsl) ?_ (by simp[SV.rel,SA.den]) trivial g;simp only[qu]at B ao;rcases hu with⟨e',hd⟩ | hd<;>simp[Builtin.append_,run_underlying ht,run_underlying hd,Go.sizeOf,typeInfo,G,B,n,ao]
      |cons Z X'=>
       obtain⟨E,g⟩:=g;have p:=wo (w:=w) tx ty ty' d V (zval ρ j) ht G (aq ρ) hu none 0 0 (Z::X').length u [] _ B (by rfl) (by rw[n];exact hf w.drew M) ss (by have:=qb3 (Z::X').length J;omega) (by rw[Y];exact growslice_fits ss (by rw[q9];exact E));simp only[q9]at p;have A:(Z::X').length<=grownCap w (Z::X').length 0 d:=by simp only[grownCap,Question.cut];omega
       refine⟨_,_,_,_,_,rext ρ nx w.heap.size,p,?_,?_,g _ A,?_,fun i hi=>eA hi,qaf _⟩
       ·simp[SV.rel,SA.den,dm]
       ·simp[SV.below,SA.below]
       ·have:=(s.drew).new (.arr d j.size (Z::X') (grownCap w (Z::X').length 0 d)) _ aj (wQ (ρ:=ρ) (hΘ d j hj) d _ aa _ A);have e0:(([]:List Value).toArray++(((Z::X').flatten.map (SA.den ρ))).toArray)=(((Z::X').flatten.map (SA.den ρ))).toArray:=by apply Array.ext';simp
        rw[e0];exact this
     ·
      split at g
      ·rename_i T;have T:=qm T;subst T
       have ah:∀W l L,lget h i=some W->W.plain=true->W.has 0->(∀o,(W.at 0).ok ρ o->(SB.arr d j.size L l).ok ρ o)->((W.at 0).below nx->(SB.arr d j.size L l).below nx)->k=0->e=0->len=L.length->cap=l->
         (len+X.length)*j.bytes<=140737488355328->(∀c,len+X.length<=c->K (.va (.slice false nx 0 0 j.size (len+X.length) c)) (lput (lput h i .gone) nx (.one (.arr d j.size (L++X) c))) (nx+1))->
         Yld P (Builtin.append_ #[tx,ty] ty' #[v,u]) C ρ nx w K:=by
        intro W l L O au ae U am hk ad a3 ac E hK;subst hk;subst ad;subst a3;subst ac;simp only[SV.rel,SA.den,jy,if_false,Nat.zero_mul]at hr;subst hr;obtain⟨o,ho,ag⟩:=s.blk _ W O _ ae;have ab:=s.wf _ W O _ ae;replace ag:=U _ ag;replace ab:=am ab;obtain⟨g1,g2,D,g3,g4⟩:=ag;have ai:=gh L g1
        have hY:∀x∈L++X,x.length=j.size:=fun x hx=>by
         rcases yf.1 hx with hx | hx
         ·exact g1 x hx
         ·exact aa x hx
        have al:(SB.arr d j.size (L++X) cap).below nx:=fun x hx=>by
         rcases yf.1 hx with hx | hx
         ·exact ab x hx
         ·exact aj x hx
        have ap:=s.lt _ _ O;by_cases Q:L.length+X.length<=cap
        ·
         have av:∀v∈X.flatten.map (SA.den ρ),v.oneCell'=true:=by
          intro z hz;obtain⟨a,_,rfl⟩:=qz.1 hz;exact SA.one ρ a
         have ax:(X.flatten.map (SA.den ρ)).length<=D.length:=by
          rw[qa,ak,g3];exact qat _ oo
         have R:RowAt w (ρ i 0) d (L.flatten.map (SA.den ρ)++D):=⟨o,ho,g4⟩
         have aw:=Ar (w:=w) tx ty ty' d V ht G hu (ρ i 0) d L.length cap X.length u (L.flatten.map (SA.den ρ)) (X.flatten.map (SA.den ρ)) D B (by rw[n];exact hf w rfl) R (by rw[qa,ai,n]) ax av Q;obtain⟨fr,a2,rfl⟩:=g4;refine⟨_,_,_,_,_,rext ρ nx (ρ i 0),aw,?_,?_,hK _ Q,?_,fun i hi=>eA hi,qaf _⟩
         ·simp[SV.rel,SA.den,dm]
         ·simp[SV.below,SA.below]
         ·refine s.move O au ae (.arr d j.size (L++X) cap) _ ⟨hY,by simpa using Q,D.drop (X.flatten.map (SA.den ρ)).length,?_,fr,?_,?_⟩ al rfl rfl rfl ss (setRow_heap w _ _ _ d fr ho) (fun b a0=>kX w _ b _ a0)
          ·rw[yj,qa,ak,g3,<-Nat.sub_mul];congr 1;simp;omega
          ·intro q hq;apply a2 q;simp only[qb,qa,yj,yu]at hq ax ⊢;omega
          ·simp
        ·
         have af:(Builtin.firstCells V.size L.length (.slice (some ⟨ρ i 0,0,none⟩) L.length cap)).run P w.drew=.ok (L.flatten.map (SA.den ρ)).toArray w.drew:=by
          have R:RowAt w.drew (ρ i 0) d (L.flatten.map (SA.den ρ)++D):=⟨o,ho,g4⟩
          have ar:(loadCells ⟨ρ i 0,0,none⟩ (L.flatten.map (SA.den ρ)).length).run P w.drew=.ok (L.flatten.map (SA.den ρ)).toArray w.drew:=
           run_loadCells_list (P:=P) w.drew _ _ (fun q z hz=>by
            rw[addr_add,R.cell,q9];rw[jo (qg.1 hz).1];exact hz)
          rw[qa,ai]at ar;rw[n];exact ar
         have p:=wo (w:=w) tx ty ty' d V (zval ρ j) ht G (aq ρ) hu (some ⟨ρ i 0,0,none⟩) L.length cap X.length u _ _ B af (by rw[n];exact hf w.drew M) oo (by have:=qb3 (L.length+X.length) J;omega) (by rw[Y];exact growslice_fits oo E);have A:L.length+X.length<=grownCap w (L.length+X.length) cap d:=by simp only[grownCap,Question.cut];omega
         refine⟨_,_,_,_,_,rext ρ nx w.heap.size,p,?_,?_,hK _ A,?_,fun i hi=>eA hi,qaf _⟩
         ·simp[SV.rel,SA.den,dm]
         ·simp[SV.below,SA.below]
         ·have hg:=wQ (ρ:=ρ) (hΘ d j hj) d (L++X) hY (grownCap w (L.length+X.length) cap d) (by simpa using A);have:=((s.drew).forget ap (s.ne0 O au)).new (.arr d j.size (L++X) (grownCap w (L.length+X.length) cap d)) _ al hg;have e0:((L.flatten.map (SA.den ρ)).toArray++(X.flatten.map (SA.den ρ)).toArray)=((L++X).flatten.map (SA.den ρ)).toArray:=by apply Array.ext';simp
          rw[e0,<-qb];rw[qb];simp only[qb]at this;exact this
       unfold base at g;split at g
       ·rename_i t ay L l O;split at g
        ·split at g
         ·rename_i h1 I;have h1:=qm h1;have I:=qm I;subst h1;subst I;exact ah _ l L O rfl rfl (fun _ h=>h) (fun h=>h) rfl g.1 g.2.1 g.2.2.1 g.2.2.2.1 g.2.2.2.2
         ·exact g.elim
        ·exact g.elim
       ·rename_i cc t ay L l O;obtain⟨hc,g⟩:=g;split at g
        ·split at g
         ·rename_i h1 I;have h1:=qm h1;have I:=qm I;subst h1;subst I;exact ah _ l L O rfl ⟨hc,rfl⟩ (fun _ h=>h) (fun h=>h) rfl g.1 g.2.1 g.2.2.1 g.2.2.2.1 g.2.2.2.2
         ·exact g.elim
        ·exact g.elim
       ·rename_i m cc f O;split at g
        ·split at g
         ·rename_i t ay L l a1;split at g
          ·rename_i h1 I;have h1:=qm h1;have I:=qm I;subst h1;subst I;obtain⟨hm,ad,a6,ac,g⟩:=g;have U:(Ent.fam m cc f).at 0=.arr t j.size L l:=a1;refine ah _ l (L.take len) O rfl hm (fun o h=>At len (by rw[U]at h;exact h)) (fun h=>?_) rfl ad (by rw[qk];omega) ac g.1 g.2;rw[U]at h;exact fun x hx=>h x (yh hx)
          ·exact g.elim
         ·exact g.elim
        ·exact g.elim
       ·exact g.elim
      ·exact g.elim
   ·exact S.elim
  ·exact S.elim
 ·exact S.elim
theorem EA(k ty ty' b:TypeId)(a:TypeInfo)(z:Value)(u:P.underlying k=some (.slice b))(p:P.info? b=some a)(A:a.zero=some z)
  (x:P.underlying ty=some (.int .i64))(n:Int)(B:0 < n)(j:a.size≠0)(o:1<=a.bytes)(d:n*a.bytes<=140737488355328):
  (Builtin.append_ #[k,ty] ty' #[.slice none 0 0,.int .i64 n]).run P w=
   .ok (.slice (some ⟨w.heap.size,0,none⟩) n.toNat (grownCap w n.toNat 0 b))
    (w.drew.alloc (.cells (Builtin.zeroCells z.cells n.toNat++Builtin.zeroCells z.cells (grownCap w n.toNat 0 b - n.toNat)) b)):=by
 have q:n<=n*a.bytes:=by
  have:=Int.mul_le_mul_of_nonneg_left (show(1:Int)<=a.bytes by omega) (show 0<=n by omega);omega
 have y:IntKind.i64.wrap n=n:=IntWalk.i64_in _ oo;have l:¬n < 0:=by omega
 have h1:¬(281474976710656 < n*(a.bytes:Int)):=by omega
 have m:¬n<=0:=by omega
 have e:¬n.toNat=0:=by omega
 have i:n.toNat*a.bytes<=140737488355328:=by
  have:((n.toNat:Nat):Int)*(a.bytes:Int)<=140737488355328:=by rw[qdw oo];exact d
  rw[<-qb6]at this;omega
 have g:¬(9223372036854775807 < n):=by omega
 have s:max n 0=n:=by omega
 have c:¬(9223372036854775807 < ((n.toNat:Nat):Int)):=by omega
 have f:¬(281474976710656 < Builtin.nextslicecap n.toNat 0*a.bytes):=by
  have:=growslice_fits (need:=n.toNat) (old:=0) (bytes:=a.bytes) oo (by simpa using i);omega
 simp[Builtin.append_,run_underlying u,run_underlying x,Go.sizeOf,typeInfo,zeroValue,p,A,y,l,h1,m,g,f,Question.forced,Builtin.firstCells,newRow,grownCap,asInt,asIntOf,s];intro h;exact absurd h (Nat.mul_ne_zero e j)
theorem De(hΘ:Θ.Ok P){ts:List TypeId}{ty':TypeId}{x y:SV}{v u:Value}(e:oY Θ ts x y h nx K)(M:Sat C ρ h nx w)(O:x.rel ρ v)(s:y.rel ρ u):
  Yld P (Builtin.append_ ts.toArray ty' #[v,u]) C ρ nx w K:=by
 unfold oY at e;split at e
 ·rename_i Q ty;split at e
  ·rename_i d a b c T U V _ _ _ _ len cap n D E;split at e
   ·rename_i j I;split at e
    ·exact e.elim
    ·exact e.elim
    ·rename_i B o;obtain⟨h0,h1,S,l,R⟩:=e;subst h0;subst h1;simp only[SV.rel,SA.den,if_true]at O s;subst O;subst s;obtain⟨L,p,q,g,G⟩:=(hΘ d j I).inf
     have k:1<=j.bytes:=by
      rcases qbl j.bytes with h0 | h0
      ·exact absurd h0 (fun h0=>o h0)
      ·exact h0
     have m:j.size≠0:=fun h0=>B h0
     have A:=EA (w:=w) Q ty ty' d L (zval ρ j) (hΘ Q _ D).und p (G ρ) (hΘ ty _ E).und n S (by rw[q];exact m) (by rw[g];exact k) (by rw[g];exact l);have f:n.toNat<=grownCap w n.toNat 0 d:=by simp only[grownCap,Question.cut];omega
     refine⟨_,_,_,_,_,rext ρ nx w.heap.size,A,?_,?_,R _ f,?_,fun i D=>eA D,qaf _⟩
     ·simp[SV.rel,SA.den,dm]
     ·simp[SV.below,SA.below]
     ·refine(M.drew).new (.arr d j.size [] (grownCap w n.toNat 0 d)) _ (fun x J=>by cases J) ⟨fun x J=>(by cases J),by simp,(Builtin.zeroCells (zval ρ j).cells n.toNat++Builtin.zeroCells (zval ρ j).cells (grownCap w n.toNat 0 d - n.toNat)).toList,?_,(0,0),NoFr.zero _,?_⟩
      ·rw[Array.toList_append,qb,jN (hΘ d j I) ρ,nO,nO,<-qbi];simp[(hΘ d j I).len];rw[Nat.add_sub_cancel' f]
      ·simp
   ·exact e.elim
  ·exact e.elim
 ·exact e.elim
theorem tf(hΘ:Θ.Ok P){ts:List TypeId}{ty':TypeId}{x y:SV}{v u:Value}(c:lx Θ ts x y h nx K)(b:Sat C ρ h nx w)(d:x.rel ρ v)(a:y.rel ρ u):
  Yld P (Builtin.append_ ts.toArray ty' #[v,u]) C ρ nx w K:=by
 unfold lx at c;split at c
 ·exact De hΘ c b d a
 ·exact Dd hΘ c b d a
theorem Dn(hΘ:Θ.Ok P){ts:List TypeId}{ty':TypeId}{x y:SV}{v u:Value}(c:pw Θ ts x y h nx K)(b:Sat C ρ h nx w)(d:x.rel ρ v)(a:y.rel ρ u):
  Yld P (Builtin.append_ ts.toArray ty' #[v,u]) C ρ nx w K:=by
 unfold pw at c;split at c
 ·exact tf hΘ c b (by simpa[SV.rel,SA.den]using d) a
 ·exact tf hΘ c b d a
end
section
variable {P:Program} {Θ:Tys} {C:Ctx} {ρ:Rho} {h:Hp} {nx:Nat} {w:World} {K:Kt}
def s_len(Θ:Tys)(ts:List TypeId)(x:SV)(h:Hp)(nx:Nat)(K:Kt):Prop:=
 match ts with
 |[t]=>match Θ t,x with
  |some ⟨.string,_,_,_⟩,.va (.str s)=>K (.va (.int .i64 s.length)) h nx
  |some ⟨.slice _,_,_,_⟩,.va (.slice _ _ _ _ _ len _)=>K (.va (.int .i64 len)) h nx
  |some ⟨.slice _,_,_,_⟩,.va .nilsl=>K (.va (.int .i64 0)) h nx
  |some ⟨.slice _,_,_,_⟩,.va (.odd _)=>K (.va (.int .i64 0)) h nx
  |some ⟨.array n _,_,_,_⟩,_=>K (.va (.int .i64 n)) h nx
  |_,_=>False
 |_=>False
theorem xK(hΘ:Θ.Ok P){ts:List TypeId}{ty:TypeId}{x:SV}{v:Value}(f:s_len Θ ts x h nx K)(d:Sat C ρ h nx w)(j:x.rel ρ v):YldS P (Builtin.len_ ts.toArray ty #[v]) ρ h nx w K:=by
 unfold s_len at f;split at f
 ·rename_i t;split at f
  ·rename_i a b c s g;simp only[SV.rel,SA.den]at j;subst j;refine YldS.mk d (.int .i64 s.length) (.va (.int .i64 s.length)) ?_ rfl trivial f;have l:(⟨s.toArray⟩:ByteArray).size=s.length:=by simp[ByteArray.size]
   simp[Builtin.len_,aV hΘ g,l,goInt]
  ·rename_i el a b c nil i k e sz len cap g;simp only[SV.rel,SA.den]at j;subst j;refine YldS.mk d (.int .i64 len) (.va (.int .i64 len)) ?_ rfl trivial f;simp[Builtin.len_,aV hΘ g,goInt]
  ·rename_i el a b c g;simp only[SV.rel,SA.den]at j;subst j;refine YldS.mk d (.int .i64 0) (.va (.int .i64 0)) ?_ rfl trivial f;simp[Builtin.len_,aV hΘ g,goInt]
  ·rename_i el a b c p g;simp only[SV.rel,SA.den]at j;subst j;refine YldS.mk d (.int .i64 0) (.va (.int .i64 0)) ?_ rfl trivial f;simp[Builtin.len_,aV hΘ g,goInt]
  ·rename_i n el a b c g;refine YldS.mk d (.int .i64 n) (.va (.int .i64 n)) ?_ rfl trivial f;simp[Builtin.len_,aV hΘ g,goInt]
  ·exact f.elim
 ·exact f.elim
def s_cap(Θ:Tys)(ts:List TypeId)(x:SV)(h:Hp)(nx:Nat)(K:Kt):Prop:=
 match ts with
 |[t]=>match Θ t,x with
  |some ⟨.slice _,_,_,_⟩,.va (.slice _ _ _ _ _ _ cap)=>K (.va (.int .i64 cap)) h nx
  |some ⟨.slice _,_,_,_⟩,.va .nilsl=>K (.va (.int .i64 0)) h nx
  |_,_=>False
 |_=>False
theorem B0(hΘ:Θ.Ok P){ts:List TypeId}{ty:TypeId}{x:SV}{v:Value}(d:s_cap Θ ts x h nx K)(f:Sat C ρ h nx w)(g:x.rel ρ v):YldS P (Builtin.cap_ ts.toArray ty #[v]) ρ h nx w K:=by
 unfold s_cap at d;split at d
 ·rename_i t;split at d
  ·rename_i el a b c nil i k e sz len cap j;simp only[SV.rel,SA.den]at g;subst g;refine YldS.mk f (.int .i64 cap) (.va (.int .i64 cap)) ?_ rfl trivial d;simp[Builtin.cap_,aV hΘ j,goInt]
  ·rename_i el a b c j;simp only[SV.rel,SA.den]at g;subst g;refine YldS.mk f (.int .i64 0) (.va (.int .i64 0)) ?_ rfl trivial d;simp[Builtin.cap_,aV hΘ j,goInt]
  ·exact d.elim
 ·exact d.elim
def s_min(x y:SV)(h:Hp)(nx:Nat)(K:Kt):Prop:=
 match x,y with
 |.va (.int k a),.va (.int _ b)=>K (.va (.int k (if b < a then b else a))) h nx
 |_,_=>False
theorem xN{ts:Array TypeId}{ty:TypeId}{x y:SV}{v u:Value}(d:s_min x y h nx K)(e:Sat C ρ h nx w)(f:x.rel ρ v)(c:y.rel ρ u):YldS P (Builtin.min_ ts ty #[v,u]) ρ h nx w K:=by
 unfold s_min at d;split at d
 ·rename_i k a g b;simp only[SV.rel,SA.den]at f c;subst f;subst c;exact YldS.mk e _ (.va (.int k (if b < a then b else a))) (by simp[Builtin.min_,Builtin.min2];rfl) rfl trivial d
 ·exact d.elim
def s_max(x y:SV)(h:Hp)(nx:Nat)(K:Kt):Prop:=
 match x,y with
 |.va (.int k a),.va (.int _ b)=>K (.va (.int k (if b>a then b else a))) h nx
 |_,_=>False
theorem xM{ts:Array TypeId}{ty:TypeId}{x y:SV}{v u:Value}(d:s_max x y h nx K)(e:Sat C ρ h nx w)(f:x.rel ρ v)(c:y.rel ρ u):YldS P (Builtin.max_ ts ty #[v,u]) ρ h nx w K:=by
 unfold s_max at d;split at d
 ·rename_i k a g b;simp only[SV.rel,SA.den]at f c;subst f;subst c;exact YldS.mk e _ (.va (.int k (if b>a then b else a))) (by simp[Builtin.max_,Builtin.max2];rfl) rfl trivial d
 ·exact d.elim
def bAnd(k:IntKind)(a b:Int):Int:=k.wrap ((BitVec.ofInt k.bits a&&&BitVec.ofInt k.bits b).toNat:Int)
def bOr(k:IntKind)(a b:Int):Int:=k.wrap ((BitVec.ofInt k.bits a|||BitVec.ofInt k.bits b).toNat:Int)
def bXor(k:IntKind)(a b:Int):Int:=k.wrap ((BitVec.ofInt k.bits a^^^BitVec.ofInt k.bits b).toNat:Int)
def mu(k:IntKind)(a b:Int):Int:=k.wrap ((BitVec.ofInt k.bits a&&& ~~~(BitVec.ofInt k.bits b)).toNat:Int)
def shlI(k:IntKind)(a b:Int):Int:=k.wrap (a*2^(min b.toNat k.bits))
def shrI(k:IntKind)(a b:Int):Int:=a.fdiv (2^(min b.toNat k.bits))
@[irreducible] def AggEq (P:Program) (t:TypeId) (l m:List SA) (b:Bool):Prop:=
 ∀(ρ:Rho) (w:World) (op:BinOp) (x y:Operand),(eqGuard op t x y (.agg (l.map (SA.den ρ)).toArray) (.agg (m.map (SA.den ρ)).toArray)).run P w=.ok () w/\
  (Op.equal t (.agg (l.map (SA.den ρ)).toArray) (.agg (m.map (SA.den ρ)).toArray)).run P w=.ok b w
def bv:SA->Option Bool
 |.lit b=>some b
 |.bool b=>some b
 |_=>none
def s_bin(P:Program)(Θ:Tys)(op:BinOp)(t:TypeId)(x y:SV)(h:Hp)(nx:Nat)(K:Kt):Prop:=
 match x,y with
 |.va (.int k a),.va (.int k' b)=>match op with
  |.shl=>0<=b/\K (.va (.int k (shlI k a b))) h nx
  |.shr=>0<=b/\K (.va (.int k (shrI k a b))) h nx
  |op=>match decide (k=k')with
   |false=>False
   |true=>match op with
    |.add=>K (.va (.int k (k.wrap (a+b)))) h nx
    |.sub=>K (.va (.int k (k.wrap (a - b)))) h nx
    |.mul=>K (.va (.int k (k.wrap (a*b)))) h nx
    |.quo=>b≠0/\K (.va (.int k (k.wrap (a.tdiv b)))) h nx
    |.rem=>b≠0/\K (.va (.int k (a.tmod b))) h nx
    |.and=>K (.va (.int k (bAnd k a b))) h nx
    |.or=>K (.va (.int k (bOr k a b))) h nx
    |.xor=>K (.va (.int k (bXor k a b))) h nx
    |.andNot=>K (.va (.int k (mu k a b))) h nx
    |.eql=>K (.va (.bool (decide (a=b)))) h nx
    |.neq=>K (.va (.bool (!decide (a=b)))) h nx
    |.lss=>K (.va (.bool (decide (a < b)))) h nx
    |.leq=>K (.va (.bool (decide (a<=b)))) h nx
    |.gtr=>K (.va (.bool (decide (b < a)))) h nx
    |.geq=>K (.va (.bool (decide (b<=a)))) h nx
    |_=>False
 |.va (.str a),.va (.str b)=>match op with
  |.add=>a.length+b.length<=9223372036854775807/\K (.va (.str (a++b))) h nx
  |.eql=>K (.va (.bool (a==b))) h nx
  |.neq=>K (.va (.bool (!(a==b)))) h nx
  |.lss=>K (.va (.bool (Op.bytesLess a b))) h nx
  |_=>False
 |.va (.lit a),.va (.bool b)=>boolOp op a b
 |.va (.bool a),.va (.lit b)=>boolOp op a b
 |.va (.bool a),.va (.bool b)=>boolOp op a b
 |.va (.lit a),.va (.lit b)=>boolOp op a b
 |.va (.slice n _ _ _ _ _ _),.va .nilsl=>nilOp op n
 |.va .nilsl,.va .nilsl=>nilOp op true
 |.agg l,.agg m=>match op with
  |.eql=>∃b,AggEq P t l m b/\K (.va (.bool b)) h nx
  |.neq=>∃b,AggEq P t l m b/\K (.va (.bool (!b))) h nx
  |_=>False
 |_,_=>False
where
 nilOp (op:BinOp) (n:Bool):Prop:=match Θ t with
  |some ⟨.slice _,_,_,_⟩=>match op with
   |.eql=>K (.va (.bool n)) h nx
   |.neq=>K (.va (.bool (!n))) h nx
   |_=>False
  |_=>False
 boolOp (op:BinOp) (a b:Bool):Prop:=match Θ t with
  |some ⟨.bool,_,_,_⟩=>match op with
   |.eql=>K (.va (.bool (a==b))) h nx
   |.neq=>K (.va (.bool (!(a==b)))) h nx
   |_=>False
  |_=>False
theorem toList_mk(s:List UInt8):(⟨s.toArray⟩:ByteArray).toList=s:=by simp
theorem bX{a:BinOp}{t:TypeId}{d e:Operand}{v u r:Value}{sv:SV}(g:(eqGuard a t d e v u).run P w=.ok () w)(f:(binOp a t v u).run P w=.ok r w)(c:Sat C ρ h nx w)(j:sv.rel ρ r)(b:sv.below nx)(i:K sv h nx):
  YldS P (do eqGuard a t d e v u;binOp a t v u) ρ h nx w K:=
 YldS.mk c r sv (by simp[g,f]) j b i
theorem dO{c:BinOp}{t:TypeId}{e f:Operand}{k d:IntKind}{a b:Int}:(eqGuard c t e f (.int k a) (.int d b)).run P w=.ok () w:=by
 unfold eqGuard;cases c<;>rfl
theorem lD{c:BinOp}{t:TypeId}{d e:Operand}{a b:ByteArray}:(eqGuard c t d e (.string a) (.string b)).run P w=.ok () w:=by
 unfold eqGuard;cases c<;>rfl
theorem ug{c:BinOp}{t:TypeId}{d e:Operand}{a b:Bool}:(eqGuard c t d e (.bool a) (.bool b)).run P w=.ok () w:=by
 unfold eqGuard;cases c<;>rfl
theorem ue{t:TypeId}{i:TI}(hΘ:Θ.Ok P)(f:Θ t=some i)(c:i.d=.bool)(a b:Bool)(w:World):(Op.equal t (.bool a) (.bool b)).run P w=.ok (a==b) w:=by
 have e:Op.maxDepth=9999+1:=rfl;unfold Op.equal;rw[e,Op.equalIn];simp only[Sem.run_bind,aV hΘ f,c,Result.andThen_ok];rfl
theorem ly(hΘ:Θ.Ok P){e:BinOp}{t:TypeId}{g i:Operand}{a b:Bool}(c:s_bin.boolOp Θ t h nx K e a b)(d:Sat C ρ h nx w):
  YldS P (do eqGuard e t g i (.bool a) (.bool b);binOp e t (.bool a) (.bool b)) ρ h nx w K:=by
 unfold s_bin.boolOp at c;split at c
 ·rename_i j k l f;split at c
  ·exact bX ug (r:=.bool (a==b)) (by show(do pure (Value.bool (<-Op.equal t (.bool a) (.bool b))):Sem Value).run P w=_;simp only[Sem.run_bind,ue hΘ f rfl,Result.andThen_ok,Sem.run_pure]) d (sv:=.va (.bool (a==b))) rfl trivial c
  ·exact bX ug (r:=.bool (!(a==b))) (by show(do pure (Value.bool (!(<-Op.equal t (.bool a) (.bool b)))):Sem Value).run P w=_;simp only[Sem.run_bind,ue hΘ f rfl,Result.andThen_ok,Sem.run_pure]) d (sv:=.va (.bool (!(a==b)))) rfl trivial c
  ·exact c.elim
 ·exact c.elim
theorem tq{d:BinOp}{t:TypeId}{f g:Operand}{a b:Option Addr}{l c e c':Nat}:(eqGuard d t f g (.slice a l c) (.slice b e c')).run P w=.ok () w:=by
 unfold eqGuard;cases d<;>rfl
theorem tl{t el:TypeId}{i:TI}(hΘ:Θ.Ok P)(f:Θ t=some i)(b:i.d=.slice el)(a:Option Addr)(l c:Nat)(w:World):(Op.equal t (.slice a l c) (.slice none 0 0)).run P w=.ok a.isNone w:=by
 have e:Op.maxDepth=9999+1:=rfl;unfold Op.equal;rw[e,Op.equalIn];simp only[Sem.run_bind,aV hΘ f,b,Result.andThen_ok];cases a<;>rfl
theorem xu(hΘ:Θ.Ok P){e:BinOp}{t:TypeId}{i j:Operand}{n:Bool}{a:Option Addr}{l c:Nat}(g:a.isNone=n)(b:s_bin.nilOp Θ t h nx K e n)(d:Sat C ρ h nx w):
  YldS P (do eqGuard e t i j (.slice a l c) (.slice none 0 0);binOp e t (.slice a l c) (.slice none 0 0)) ρ h nx w K:=by
 subst g;unfold s_bin.nilOp at b;split at b
 ·rename_i k m o p f;split at b
  ·exact bX tq (r:=.bool a.isNone) (by show(do pure (Value.bool (<-Op.equal t _ _)):Sem Value).run P w=_;simp only[Sem.run_bind,tl hΘ f rfl,Result.andThen_ok,Sem.run_pure]) d (sv:=.va (.bool a.isNone)) rfl trivial b
  ·exact bX tq (r:=.bool (!a.isNone)) (by show(do pure (Value.bool (!(<-Op.equal t _ _))):Sem Value).run P w=_;simp only[Sem.run_bind,tl hΘ f rfl,Result.andThen_ok,Sem.run_pure]) d (sv:=.va (.bool (!a.isNone))) rfl trivial b
  ·exact b.elim
 ·exact b.elim
end
section
variable {P:Program} {Θ:Tys} {C:Ctx} {ρ:Rho} {h:Hp} {nx:Nat} {w:World} {K:Kt}
theorem xJ(hΘ:Θ.Ok P){o:BinOp}{t:TypeId}{p q:Operand}{x y:SV}{v u:Value}(d:s_bin P Θ o t x y h nx K)(c:Sat C ρ h nx w)(f:x.rel ρ v)(e:y.rel ρ u):
  YldS P (do eqGuard o t p q v u;binOp o t v u) ρ h nx w K:=by
 unfold s_bin at d;split at d
 ·rename_i k a B b;simp only[SV.rel,SA.den]at f e;subst f;subst e;split at d
  ·obtain⟨g,d⟩:=d;exact bX dO (r:=.int k (shlI k a b)) (by simp[binOp,Op.shift,qck.2 g,shlI]) c (sv:=.va (.int k (shlI k a b))) rfl trivial d
  ·obtain⟨g,d⟩:=d;exact bX dO (r:=.int k (shrI k a b)) (by simp[binOp,Op.shift,qck.2 g,shrI]) c (sv:=.va (.int k (shrI k a b))) rfl trivial d
  ·split at d
   ·exact d.elim
   ·rename_i j;have j:=od j;subst j;split at d
    ·exact bX dO (r:=.int k (k.wrap (a+b))) (by simp[binOp,Op.intArith]) c (sv:=.va (.int k (k.wrap (a+b)))) rfl trivial d
    ·exact bX dO (r:=.int k (k.wrap (a - b))) (by simp[binOp,Op.intArith]) c (sv:=.va (.int k (k.wrap (a - b)))) rfl trivial d
    ·exact bX dO (r:=.int k (k.wrap (a*b))) (by simp[binOp,Op.intArith]) c (sv:=.va (.int k (k.wrap (a*b)))) rfl trivial d
    ·exact bX dO (r:=.int k (k.wrap (a.tdiv b))) (by simp[binOp,Op.intDiv,d.1]) c (sv:=.va (.int k (k.wrap (a.tdiv b)))) rfl trivial d.2
    ·exact bX dO (r:=.int k (a.tmod b)) (by simp[binOp,Op.intDiv,d.1]) c (sv:=.va (.int k (a.tmod b))) rfl trivial d.2
    ·exact bX dO (r:=.int k (bAnd k a b)) (by simp[binOp,Op.intBits,bAnd]) c (sv:=.va (.int k (bAnd k a b))) rfl trivial d
    ·exact bX dO (r:=.int k (bOr k a b)) (by simp[binOp,Op.intBits,bOr]) c (sv:=.va (.int k (bOr k a b))) rfl trivial d
    ·exact bX dO (r:=.int k (bXor k a b)) (by simp[binOp,Op.intBits,bXor]) c (sv:=.va (.int k (bXor k a b))) rfl trivial d
    ·exact bX dO (r:=.int k (mu k a b)) (by simp[binOp,Op.intBits,mu]) c (sv:=.va (.int k (mu k a b))) rfl trivial d
    ·exact bX dO (r:=.bool (decide (a=b))) (by simp[binOp,Op.intCmp];rfl) c (sv:=.va (.bool (decide (a=b)))) rfl trivial d
    ·exact bX dO (r:=.bool (!decide (a=b))) (by simp[binOp,Op.intCmp];rfl) c (sv:=.va (.bool (!decide (a=b)))) rfl trivial d
    ·exact bX dO (r:=.bool (decide (a < b))) (by simp[binOp,Op.intCmp]) c (sv:=.va (.bool (decide (a < b)))) rfl trivial d
    ·exact bX dO (r:=.bool (decide (a<=b))) (by simp[binOp,Op.intCmp]) c (sv:=.va (.bool (decide (a<=b)))) rfl trivial d
    ·exact bX dO (r:=.bool (decide (b < a))) (by simp[binOp,Op.intCmp]) c (sv:=.va (.bool (decide (b < a)))) rfl trivial d
    ·exact bX dO (r:=.bool (decide (b<=a))) (by simp[binOp,Op.intCmp]) c (sv:=.va (.bool (decide (b<=a)))) rfl trivial d
    ·exact d.elim
 ·rename_i a b;simp only[SV.rel,SA.den]at f e;subst f;subst e;split at d
  ·obtain⟨A,d⟩:=d;refine bX lD (r:=.string ⟨(a++b).toArray⟩) ?_ c (sv:=.va (.str (a++b))) rfl trivial d;have h1:¬(9223372036854775807 < ((a.length:Int)+(b.length:Int))):=by omega
   have i:(⟨a.toArray⟩:ByteArray)++⟨b.toArray⟩=⟨(a++b).toArray⟩:=by apply ByteArray.ext;simp
   have s:IntKind.i64.max=9223372036854775807:=by decide
   simp[binOp,Op.stringOp,ByteArray.size,s,h1,i]
  ·exact bX lD (r:=.bool (a==b)) (by simp[binOp,Op.stringOp]) c (sv:=.va (.bool (a==b))) rfl trivial d
  ·exact bX lD (r:=.bool (!(a==b))) (by simp[binOp,Op.stringOp]) c (sv:=.va (.bool (!(a==b)))) rfl trivial d
  ·exact bX lD (r:=.bool (Op.bytesLess a b)) (by simp[binOp,Op.stringOp]) c (sv:=.va (.bool (Op.bytesLess a b))) rfl trivial d
  ·exact d.elim
 ·simp only[SV.rel,SA.den]at f e;subst f;subst e;exact ly hΘ d c
 ·simp only[SV.rel,SA.den]at f e;subst f;subst e;exact ly hΘ d c
 ·simp only[SV.rel,SA.den]at f e;subst f;subst e;exact ly hΘ d c
 ·simp only[SV.rel,SA.den]at f e;subst f;subst e;exact ly hΘ d c
 ·rename_i n _ _ _ _ _ _;simp only[SV.rel,SA.den]at f e;subst f;subst e;cases n<;>exact xu hΘ rfl d c
 ·simp only[SV.rel,SA.den]at f e;subst f;subst e;exact xu hΘ rfl d c
 ·rename_i l m;simp only[SV.rel]at f e;subst f;subst e;split at d
  ·obtain⟨b,g,d⟩:=d;unfold AggEq at g;obtain⟨h1,i⟩:=g ρ w .eql p q;exact bX h1 (r:=.bool b) (by show(do pure (Value.bool (<-Op.equal t _ _)):Sem Value).run P w=_;simp only[Sem.run_bind,i,Result.andThen_ok,Sem.run_pure]) c (sv:=.va (.bool b)) rfl trivial d
  ·obtain⟨b,g,d⟩:=d;unfold AggEq at g;obtain⟨h1,i⟩:=g ρ w .neq p q;exact bX h1 (r:=.bool (!b)) (by show(do pure (Value.bool (!(<-Op.equal t _ _))):Sem Value).run P w=_;simp only[Sem.run_bind,i,Result.andThen_ok,Sem.run_pure]) c (sv:=.va (.bool (!b))) rfl trivial d
  ·exact d.elim
 ·exact d.elim
def s_un(a:UnOp)(x:SV)(h:Hp)(nx:Nat)(K:Kt):Prop:=
 match a,x with
 |.not,.va (.lit b)=>K (.va (.lit (!b))) h nx
 |.not,.va (.bool b)=>K (.va (.bool (!b))) h nx
 |.neg,.va (.int k n)=>K (.va (.int k (k.wrap (0 - n)))) h nx
 |.xor,.va (.int k n)=>K (.va (.int k (bXor k (if k.signed then -1 else k.max) n))) h nx
 |_,_=>False
theorem rv{e:UnOp}{x:SV}{v:Value}(d:s_un e x h nx K)(a:Sat C ρ h nx w)(c:x.rel ρ v):YldS P (Op.unary e v) ρ h nx w K:=by
 unfold s_un at d;split at d
 ·rename_i b;simp only[SV.rel,SA.den]at c;subst c;exact YldS.mk a (.bool (!b)) (.va (.lit (!b))) (by simp[Op.unary]) rfl trivial d
 ·rename_i b;simp only[SV.rel,SA.den]at c;subst c;exact YldS.mk a (.bool (!b)) (.va (.bool (!b))) (by simp[Op.unary]) rfl trivial d
 ·rename_i k n;simp only[SV.rel,SA.den]at c;subst c;exact YldS.mk a (.int k (k.wrap (0 - n))) (.va (.int k (k.wrap (0 - n)))) (by simp only[Op.unary,Op.intArith];rfl) rfl trivial d
 ·rename_i k n;simp only[SV.rel,SA.den]at c;subst c;exact YldS.mk a (.int k (bXor k (if k.signed then -1 else k.max) n)) (.va (.int k (bXor k (if k.signed then -1 else k.max) n))) (by simp only[Op.unary,Op.intBits];rfl) rfl trivial d
 ·exact d.elim
def ii(c a b:SV)(h:Hp)(nx:Nat)(K:Kt):Prop:=
 match c with
 |.va (.lit true)=>K a h nx
 |.va (.lit false)=>K b h nx
 |.va (.bool c)=>match a,b with
  |.va (.bool x),.va (.bool y)=>K (.va (.bool (bif c then x else y))) h nx
  |.va (.bool x),.va (.lit y)=>K (.va (.bool (bif c then x else y))) h nx
  |.va (.lit x),.va (.bool y)=>K (.va (.bool (bif c then x else y))) h nx
  |.va (.lit x),.va (.lit y)=>K (.va (.bool (bif c then x else y))) h nx
  |a,b=>(c=true->K a h nx)/\(c=false->K b h nx)
 |_=>False
theorem vP{c a b:SV}{n l m:Value}(e:ii c a b h nx K)(d:Sat C ρ h nx w)(i:c.rel ρ n)(f:a.rel ρ l)(g:b.rel ρ m)(j:a.below nx)(k:b.below nx):
  YldS P (do pure (if<-asBool n then l else m)) ρ h nx w K:=by
 unfold ii at e;split at e
 ·simp only[SV.rel,SA.den]at i;subst i;exact YldS.mk d l a (by simp[asBool]) f j e
 ·simp only[SV.rel,SA.den]at i;subst i;exact YldS.mk d m b (by simp[asBool]) g k e
 ·rename_i c;simp only[SV.rel,SA.den]at i;subst i;split at e
  ·rename_i x y;simp only[SV.rel,SA.den]at f g;subst f;subst g;exact YldS.mk d (.bool (bif c then x else y)) (.va (.bool (bif c then x else y))) (by cases c<;>simp[asBool]) rfl trivial e
  ·rename_i x y;simp only[SV.rel,SA.den]at f g;subst f;subst g;exact YldS.mk d (.bool (bif c then x else y)) (.va (.bool (bif c then x else y))) (by cases c<;>simp[asBool]) rfl trivial e
  ·rename_i x y;simp only[SV.rel,SA.den]at f g;subst f;subst g;exact YldS.mk d (.bool (bif c then x else y)) (.va (.bool (bif c then x else y))) (by cases c<;>simp[asBool]) rfl trivial e
  ·rename_i x y;simp only[SV.rel,SA.den]at f g;subst f;subst g;exact YldS.mk d (.bool (bif c then x else y)) (.va (.bool (bif c then x else y))) (by cases c<;>simp[asBool]) rfl trivial e
  ·cases c with
   |true=>exact YldS.mk d l a (by simp[asBool]) f j (e.1 rfl)
   |false=>exact YldS.mk d m b (by simp[asBool]) g k (e.2 rfl)
 ·exact e.elim
def kS(Θ:Tys)(s d:TypeId)(x:SV)(h:Hp)(nx:Nat)(K:Kt):Prop:=
 match Θ s,Θ d,x with
 |some _,some ⟨.int k,_,_,_⟩,.va (.int _ n)=>K (.va (.int k (k.wrap n))) h nx
 |some _,some ⟨.string,_,_,_⟩,.va (.str s)=>K (.va (.str s)) h nx
 |some ⟨.slice e,_,_,_⟩,some ⟨.string,_,_,_⟩,.va (.slice nil i k o sz len _)=>match Θ e with
  |some ⟨.int .u8,_,_,_⟩=>(match nil with
   |true=>K (.va (.str [])) h nx
   |false=>match Nat.beq sz 1 with
    |true=>rdEls h i k o sz len fun X=>∃s:List UInt8,X=(s.map fun b=>[SA.int .u8 b.toNat])/\K (.va (.str s)) h nx
    |false=>False)
  |_=>False
 |some ⟨.slice e,_,_,_⟩,some ⟨.string,_,_,_⟩,.va .nilsl=>(match Θ e with
  |some ⟨.int .u8,_,_,_⟩=>K (.va (.str [])) h nx
  |_=>False)
 |some _,some ⟨.slice e,_,_,_⟩,.va (.str s)=>match Θ e with
  |some ⟨.int .u8,_,_,_⟩=>∀c,s.length<=c->K (.va (.slice false nx 0 0 1 s.length c)) (lput h nx (.one (.arr e 1 (s.map fun b=>[SA.int .u8 b.toNat]) c))) (nx+1)
  |_=>False
 |_,_,_=>False
theorem tC(P:Program)(w:World):∀(s:List UInt8) (acc:ByteArray),
  (forIn (s.map fun b=>Value.int .u8 (b.toNat:Int)) acc (fun(c:Value) (r:ByteArray)=>(do
   let .int .u8 n:=c | stuck "bytesToString: byte expected"
   pure (ForInStep.yield (r.push (UInt8.ofNat n.toNat))):Sem (ForInStep ByteArray)))).run P w=.ok (acc++⟨s.toArray⟩) w
 |[],acc=>by
  have:acc++(⟨#[]⟩:ByteArray)=acc:=by apply ByteArray.ext;simp
  simp[this]
 |b::r,acc=>by
  simp only[qw,List.forIn_cons,Sem.run_bind];have h1:UInt8.ofNat ((b.toNat:Int).toNat)=b:=by simp
  simp only[h1,Sem.run_pure,Result.andThen_ok];rw[tC P w r (acc.push b)]
  congr 1
  apply ByteArray.ext;simp
end
section
variable {P:Program} {Θ:Tys} {C:Ctx} {ρ:Rho} {h:Hp} {nx:Nat} {w:World} {K:Kt}
theorem D8(w:World)(c:Array Value)(e:TypeId):((w.alloc (.cells c e (0,0))).freeze ⟨w.heap.size,c.size,none⟩ 1)=w.alloc (.cells c e (c.size,c.size+1)):=by
 simp only[World.freeze,World.alloc,Nat.succ_ne_zero,if_false]
 congr 1
 apply Array.ext
 ·simp
 ·intro i h1 b;simp only[Array.getElem_modify,Array.getElem_push];by_cases a:i=w.heap.size
  ·subst a;simp
  ·have:i < w.heap.size:=by simp at b;omega
   simp[this,Ne.symm a]
theorem zS(hΘ:Θ.Ok P){s d:TypeId}{x:SV}{v:Value}(l:kS Θ s d x h nx K)(m:Sat C ρ h nx w)(p:x.rel ρ v):Yld P (convert s d v) C ρ nx w K:=by
 unfold kS at l;split at l
 ·rename_i O k a b c k' n h1 B;simp only[SV.rel,SA.den]at p;subst p;refine Yld.same m (.int k (k.wrap n)) (.va (.int k (k.wrap n))) ?_ rfl trivial l;simp only[convert,Sem.run_bind,aV hΘ h1,aV hΘ B,Result.andThen_ok,Conv.intToInt];cases O.d<;>rfl
 ·rename_i O a b c g h1 B;simp only[SV.rel,SA.den]at p;subst p;refine Yld.same m (.string ⟨g.toArray⟩) (.va (.str g)) ?_ rfl trivial l;simp only[convert,Sem.run_bind,aV hΘ h1,aV hΘ B,Result.andThen_ok];cases O.d<;>rfl
 ·rename_i e a b c a' b' c' nil i k o sz len cap h1 B;split at l
  ·rename_i S T U E
   have conv:∀z,(convert s d (.slice z len cap)).run P w=(Conv.bytesToString (.slice z len cap)).run P w:=by
    intro z;cases z<;>simp[convert,aV hΘ h1,aV hΘ B,aV hΘ E]
   split at l
   ·simp only[SV.rel,SA.den,if_true]at p;subst p;refine Yld.same m (.string .empty) (.va (.str [])) ?_ rfl trivial l;rw[conv];rfl
   ·split at l
    ·rename_i A;have A:=qm A;subst A;simp only[SV.rel,SA.den,jy,if_false]at p;subst p;obtain⟨X,⟨g,rfl,l⟩,hl,h3,h4,t',pre,Z,L,J⟩:=tI l m;refine Yld.same m (.string ⟨g.toArray⟩) (.va (.str g)) ?_ rfl trivial l;rw[conv]
     have q:(loadCells ⟨ρ i k,o*1,none⟩ (g.map fun b=>Value.int .u8 (b.toNat:Int)).length).run P w=.ok (g.map fun b=>Value.int .u8 (b.toNat:Int)).toArray w:=
      run_loadCells_list (P:=P) w _ _ (fun j u W=>by
       rw[addr_add,L.cell,<-J,jE,jq];have Q:j < (g.map fun b=>Value.int .u8 (b.toNat:Int)).length:=(qg.1 W).1;rw[qj,jt oo,qag,jo (by simpa using Q)];exact W)
     have I:(g.map fun b=>Value.int .u8 (b.toNat:Int)).length=len:=by simpa using hl
     rw[I]at q;have y:=tC P w g ByteArray.empty;have E:(ByteArray.empty++(⟨g.toArray⟩:ByteArray))=⟨g.toArray⟩:=by apply ByteArray.ext;simp
     rw[E]at y;simp only[Conv.bytesToString,Sem.run_bind,q,Result.andThen_ok];rw[<-Array.forIn_toList]
     erw [y]
     rfl
    ·exact l.elim
  ·exact l.elim
 ·rename_i e a b c a' b' c' h1 B;split at l
  ·rename_i S T U E;simp only[SV.rel,SA.den]at p;subst p;refine Yld.same m (.string .empty) (.va (.str [])) ?_ rfl trivial l
   have conv:(convert s d (.slice none 0 0)).run P w=(Conv.bytesToString (.slice none 0 0)).run P w:=by
    simp[convert,aV hΘ h1,aV hΘ B,aV hΘ E]
   rw[conv];rfl
  ·exact l.elim
 ·rename_i O e a b c g h1 B;split at l
  ·rename_i S T U E;simp only[SV.rel,SA.den]at p;subst p;have A:(⟨g.toArray⟩:ByteArray).size=g.length:=by simp[ByteArray.size]
   let cap:=(Question.appendCap g.length 0 e).cut (w.tape w.drawn (.appendCap g.length 0 e))
   have D:g.length<=cap:=by simp only[cap,Question.cut];omega
   let f:Array Value:=(g.map fun b=>Value.int .u8 (b.toNat:Int)).toArray++Array.replicate (cap - g.length) (.int .u8 0)
   have M:(convert s d (.string ⟨g.toArray⟩)).run P w=.ok (.slice (some ⟨w.heap.size,0,none⟩) g.length cap) (w.drew.alloc (.cells f e (f.size,f.size+1))):=by
    have R:=D8 w.drew f e
    have aa:(w.drew.alloc (.cells f e (0,0))).shape? w.heap.size=some (e,f.size):=by
     have hg:(w.drew.alloc (.cells f e (0,0))).heap[w.heap.size]? =some (.cells f e (0,0)):=by
      show(w.heap.push _)[w.heap.size]? =_;simp
     simp only[World.shape?,hg]
    have conv:(convert s d (.string ⟨g.toArray⟩)).run P w=(Conv.stringToBytes e ⟨g.toArray⟩).run P w:=by
     simp only[convert,Sem.run_bind,aV hΘ h1,aV hΘ B,Result.andThen_ok];cases O.d<;>simp[aV hΘ E]
    rw[conv];have e1:((⟨g.toArray⟩:ByteArray).data.map fun b=>Value.int .u8 (b.toNat:Int))=(g.map fun b=>Value.int .u8 (b.toNat:Int)).toArray:=by simp
    simp only[Conv.stringToBytes,A,Sem.run_bind,run_choose,Question.forced,jy,if_false,Result.andThen_ok,e1,newRow,run_newObj,Sem.run_pure,markStringish,run_shape];simp only[World.shape?,qdv,if_true];have G:(World.freeze { heap:=w.heap.push (.cells f e (0,0)),tape:=w.tape,drawn:=w.drawn+1,os:=w.os,output:=w.output } ⟨w.heap.size,f.size,none⟩ 1)=w.drew.alloc (.cells f e (f.size,f.size+1)):=R;simp only[run_freeze,Result.andThen_ok];rw[<-G]
   refine⟨_,_,_,_,_,rext ρ nx w.heap.size,M,?_,?_,l cap D,?_,fun i hi=>eA hi,qaf _⟩
   ·simp[SV.rel,SA.den,dm]
   ·simp[SV.below,SA.below]
   ·refine m.drew.new (.arr e 1 (g.map fun b=>[SA.int .u8 b.toNat]) cap) _ (by intro x Y a V;simp at Y;obtain⟨b,_,rfl⟩:=Y;simp at V;subst V;trivial) ⟨by simp,by simpa using D,List.replicate (cap - g.length) (.int .u8 0),by simp,(f.size,f.size+1),?_,?_⟩
    ·intro j Q hh;rw[jE]at Q;simp[f]at Q hh;omega
    ·congr 1
     rw[jE];apply Array.ext';simp[f,SA.den]
  ·exact l.elim
 ·exact l.elim
end
end Sx
