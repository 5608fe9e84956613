import Derived.Test.YtfnkamphhpldcaaGreatDoorK23
import Derived.Test.YtfnkamphhpldcaaGreatDoorK11
import Derived.Test.YtfnkamphhpldcaaGreatDoorK08
import Derived.Test.YtfnkamphhpldcaaGreatDoorK12
import Derived.Shelf.Strings.OnBuilder
import Derived.Test.YtfnkamphhpldcaaGreatDoorProg
set_option maxHeartbeats 64000000
namespace Go.Proofs.YtfnkamphhpldcaaGreatDoor
open Go Sx Tryz
set_option maxRecDepth 100000
def fullB(A:List UInt8):List UInt8:=A++List.replicate (32 - A.length) 0
variable {A:List UInt8}
theorem yU(x:UInt8)(h:A.length < 32):(fullB A).set A.length x=fullB (A++[x]):=by
 unfold fullB;rw[qbo _ _ (qi _),qdj,qj,qb];obtain⟨m,a⟩:∃m,32 - A.length=m+1:=⟨31 - A.length,by omega⟩
 rw[a,qb2,qax,yi,show 32 - (A.length+1)=m by omega];rfl
theorem vh(h:A.length<=32):(fullB A).length=32:=by simp[fullB];omega
theorem set1B{j:Nat}{z:Int}(x:UInt8)(a:j=A.length)(h:A.length < 32)(b:z=(x.toNat:Int)):((fullB A).map encB).set j [SA.int .u8 z]=(fullB (A++[x])).map encB:=by
 subst a b;rw[show[SA.int .u8 (x.toNat:Int)]=encB x from rfl,<-qbw,yU x h]
theorem set4B{a b c d:Nat}{e f g i:Int}(x:Nat)(h:A.length+4<=32)(n:a=A.length)(h1:b=A.length+1)(o:c=A.length+2)(p:d=A.length+3)
  (j:e=((UInt8.ofNat (x / 16777216)).toNat:Int))(k:f=((UInt8.ofNat (x / 65536)).toNat:Int))(l:g=((UInt8.ofNat (x / 256)).toNat:Int))(m:i=((UInt8.ofNat x).toNat:Int)):
  (((((fullB A).map encB).set a [SA.int .u8 e]).set b [SA.int .u8 f]).set c [SA.int .u8 g]).set d [SA.int .u8 i]=(fullB (A++be4 x)).map encB:=by
 rw[set1B _ n oo j,set1B _ (by rw[h1];simp) (by simp;omega) k,set1B _ (by rw[o];simp) (by simp;omega) l,set1B _ (by rw[p];simp) (by simp;omega) m]
 congr 2
 simp[be4]
theorem byteI(x n:Nat)(h:n<=32):IntKind.u8.wrap (shrI .u32 (x:Int) (n:Int))=((UInt8.ofNat (x / 2^n)).toNat:Int):=by
 rw[shr32 x n h];show((x / 2^n:Nat):Int) % 256=_;rw[qay];omega
abbrev rowB(A:List UInt8):Ent:=.one (.arr 290 1 ((fullB A).map encB) 32)
theorem xG(μ:Mu)(L:List UInt8)(c:Nat):(SB.arr 290 1 (L.map encB) c).ren μ=SB.arr 290 1 (L.map encB) c:=by
 show SB.arr 290 1 ((L.map encB).map (List.map (SA.ren μ))) c=_;rw[jq];congr 1
theorem tR(n:Nat)(L:List UInt8)(c:Nat):(SB.arr 290 1 (L.map encB) c).below n:=by
 intro x d a b;obtain⟨s,_,rfl⟩:=qz.1 d;rcases qs.1 b with rfl;trivial
theorem iZ{l:List (List SA)}{i j:Nat}{y x:List SA}(h:i≠j)(a:l[j]? =some x):(l.set i y)[j]? =some x:=by
 rw[qbu h];exact a
def fb(A:List UInt8)(j:Nat):UInt8:=(fullB A)[j]?.getD 0
theorem getB{j n:Nat}(b:j=n)(h:n < 32)(a:A.length<=32):((fullB A).map encB)[j]? =some (encB (fb A n)):=by
 have c:=vh a;subst b;unfold fb;rw[qt,qc oo];rfl
def wl(v:W8):List Nat:=[v.a,v.b,v.c,v.d,v.e,v.f,v.g,v.h]
def preB(v:W8)(i:Nat):List UInt8:=((wl v).take i).flatMap be4
theorem xB(v:W8){i:Nat}(h:i<=8):(preB v i).length=4*i:=by
 have a:i=0\/i=1\/i=2\/i=3\/i=4\/i=5\/i=6\/i=7\/i=8:=by omega
 rcases a with rfl | rfl | rfl | rfl | rfl | rfl | rfl | rfl | rfl<;>rfl
theorem zI(v:W8){i:Nat}(h:i < 8):preB v (i+1)=preB v i++be4 (at0 (wl v) i):=by
 unfold preB at0;rw[qf (show i < (wl v).length from h),List.flatMap_append,qc (show i < (wl v).length from h)];simp
theorem BH(v:W8):preB v 8=eW v:=by
 simp[preB,wl,eW,List.take,List.flatMap_cons]
theorem setI(v:W8){i e f g h:Nat}{t0 t1 t2 t3:Int}(n:i < 8)(o:e=4*i+0)(h1:f=4*i+1)(p:g=4*i+2)(q:h=4*i+3)(j:t0=((24:Nat):Int))(k:t1=((16:Nat):Int))(l:t2=((8:Nat):Int))(m:t3=((0:Nat):Int)):
  (((((fullB (preB v i)).map encB).set e [SA.int .u8 (IntKind.u8.wrap (shrI .u32 ((at0 (wl v) i:Nat):Int) t0))]).set f [SA.int .u8 (IntKind.u8.wrap (shrI .u32 ((at0 (wl v) i:Nat):Int) t1))]).set g [SA.int .u8 (IntKind.u8.wrap (shrI .u32 ((at0 (wl v) i:Nat):Int) t2))]).set h [SA.int .u8 (IntKind.u8.wrap (shrI .u32 ((at0 (wl v) i:Nat):Int) t3))]=(fullB (preB v (i+1))).map encB:=by
 have s:=xB v (show i<=8 by omega);subst j k l m;have a:=byteI (at0 (wl v) i) 24 oo;have b:=byteI (at0 (wl v) i) 16 oo;have c:=byteI (at0 (wl v) i) 8 oo;have d:=byteI (at0 (wl v) i) 0 oo;rw[show 2^24=16777216 from rfl]at a;rw[show 2^16=65536 from rfl]at b;rw[show 2^8=256 from rfl]at c;rw[Nat.pow_zero,Nat.div_one]at d;rw[set4B (A:=preB v i) (at0 (wl v) i) oo oo oo oo oo a b c d,zI v n]
theorem s24:IntKind.i64.wrap (24 - IntKind.i64.wrap (8*0))=((24:Nat):Int):=by decide
theorem s16:IntKind.i64.wrap (24 - IntKind.i64.wrap (8*1))=((16:Nat):Int):=by decide
theorem s8:IntKind.i64.wrap (24 - IntKind.i64.wrap (8*2))=((8:Nat):Int):=by decide
theorem s0:IntKind.i64.wrap (24 - IntKind.i64.wrap (8*3))=((0:Nat):Int):=by decide
theorem EG(F:Fz)(v:W8)(_:v.Ok):Fo prog F 176 [.agg (w8 v)] (fun o K=>o=.ret (.va (.str (eW v)))/\K=F):=by
 refine foS func176 ?_;refine nD 2 (.arr 290 1 ((fullB []).map encB) 32) rfl (pm rfl rfl) (nY rfl) ?_
 refine aH hΘ (X:={ i:Nat // i<=8 }) (fun i=>[(8,.va (.int .i64 i.1))]) (4::5::6::jr 9 19 []) (fun i=>[(0,.frz F),(2,rowB (preB v i.1))]) 3 (fun i=>8 - i.1) ⟨0,by simp⟩
  (fun s u=>leI [] s u rfl ⟨tv,tR 3 (fullB []) 32,tv⟩ ⟨rfl,tv⟩ ⟨Fz.r F,(xG _ (fullB []) 32).symm,tv⟩) ?_
 rintro⟨i,O⟩ s u;by_cases g:i < 8
 ·have Q:dA (w8 v) (((i:Nat):Int).toNat*1) 1=some [wd (at0 (wl v) i)]:=og (by
   rw[qn,show w8 v=(wl v).map wd from rfl,qt];unfold at0;rw[qc (show i < (wl v).length from g)];rfl)
  have l:IntKind.i64.wrap (IntKind.i64.wrap (4*(i:Int))+0)=((4*i+0:Nat):Int):=by rw[aI (n:=4*(i:Int)) oo oo,aI oo oo];omega
  have m:IntKind.i64.wrap (IntKind.i64.wrap (4*(i:Int))+1)=((4*i+1:Nat):Int):=by rw[aI (n:=4*(i:Int)) oo oo,aI oo oo];omega
  have p:IntKind.i64.wrap (IntKind.i64.wrap (4*(i:Int))+2)=((4*i+2:Nat):Int):=by rw[aI (n:=4*(i:Int)) oo oo,aI oo oo];omega
  have q:IntKind.i64.wrap (IntKind.i64.wrap (4*(i:Int))+3)=((4*i+3:Nat):Int):=by rw[aI (n:=4*(i:Int)) oo oo,aI oo oo];omega
  have e:(IntKind.i64.wrap (IntKind.i64.wrap (4*(i:Int))+0)).toNat=4*i+0:=by rw[l];exact qn _
  have f:(IntKind.i64.wrap (IntKind.i64.wrap (4*(i:Int))+1)).toNat=4*i+1:=by rw[m];exact qn _
  have j:(IntKind.i64.wrap (IntKind.i64.wrap (4*(i:Int))+2)).toNat=4*i+2:=by rw[p];exact qn _
  have k:(IntKind.i64.wrap (IntKind.i64.wrap (4*(i:Int))+3)).toNat=4*i+3:=by rw[q];exact qn _
  have R:=xB v O;have M:=vh (A:=preB v i) oo;have w:=getB (A:=preB v i) e oo oo;have x:=getB (A:=preB v i) f oo oo;have y:=getB (A:=preB v i) j oo oo;have B:=getB (A:=preB v i) k oo oo;have G:(IntKind.i64.wrap (IntKind.i64.wrap (4*(i:Int))+0)).toNat≠(IntKind.i64.wrap (IntKind.i64.wrap (4*(i:Int))+1)).toNat:=by rw[e,f];omega
  have I:(IntKind.i64.wrap (IntKind.i64.wrap (4*(i:Int))+0)).toNat≠(IntKind.i64.wrap (IntKind.i64.wrap (4*(i:Int))+2)).toNat:=by rw[e,j];omega
  have J:(IntKind.i64.wrap (IntKind.i64.wrap (4*(i:Int))+0)).toNat≠(IntKind.i64.wrap (IntKind.i64.wrap (4*(i:Int))+3)).toNat:=by rw[e,k];omega
  have n12:(IntKind.i64.wrap (IntKind.i64.wrap (4*(i:Int))+1)).toNat≠(IntKind.i64.wrap (IntKind.i64.wrap (4*(i:Int))+2)).toNat:=by rw[f,j];omega
  have n13:(IntKind.i64.wrap (IntKind.i64.wrap (4*(i:Int))+1)).toNat≠(IntKind.i64.wrap (IntKind.i64.wrap (4*(i:Int))+3)).toNat:=by rw[f,k];omega
  have n23:(IntKind.i64.wrap (IntKind.i64.wrap (4*(i:Int))+2)).toNat≠(IntKind.i64.wrap (IntKind.i64.wrap (4*(i:Int))+3)).toNat:=by rw[j,k];omega
  have d:=setI v g e f j k s24 s16 s8 s0;refine br (fun _=>?_) (fun h=>absurd h (by simp;omega));refine⟨⟨by simp,by show(i:Int) < 8;omega⟩,[wd (at0 (wl v) i)],Q,?_⟩;conv=>whnf
  refine rr hΘ 4 ?_;refine bre dd ⟨by decide,⟨by show 0<=IntKind.i64.wrap (IntKind.i64.wrap (4*(i:Int))+0);rw[l];omega,by show IntKind.i64.wrap (IntKind.i64.wrap (4*(i:Int))+0) < 32;rw[l];omega⟩,encB (fb (preB v i) (4*i+0)),w,?_⟩;conv=>whnf
  refine sr_go hΘ ?_;refine bre dd ⟨by decide,⟨by show 0<=IntKind.i64.wrap (IntKind.i64.wrap (4*(i:Int))+1);rw[m];omega,by show IntKind.i64.wrap (IntKind.i64.wrap (4*(i:Int))+1) < 32;rw[m];omega⟩,encB (fb (preB v i) (4*i+1)),iZ G x,?_⟩;conv=>whnf
  refine sr_go hΘ ?_;refine bre dd ⟨by decide,⟨by show 0<=IntKind.i64.wrap (IntKind.i64.wrap (4*(i:Int))+2);rw[p];omega,by show IntKind.i64.wrap (IntKind.i64.wrap (4*(i:Int))+2) < 32;rw[p];omega⟩,encB (fb (preB v i) (4*i+2)),iZ n12 (iZ I y),?_⟩;conv=>whnf
  refine sr_go hΘ ?_;refine bre dd ⟨by decide,⟨by show 0<=IntKind.i64.wrap (IntKind.i64.wrap (4*(i:Int))+3);rw[q];omega,by show IntKind.i64.wrap (IntKind.i64.wrap (4*(i:Int))+3) < 32;rw[q];omega⟩,encB (fb (preB v i) (4*i+3)),iZ n23 (iZ n13 (iZ J B)),?_⟩;conv=>whnf
  refine sr_go hΘ ?_;refine brd dd ?_;exact⟨⟨i+1,by omega⟩,by show 8 - (i+1) < 8 - i;omega,leR [] s u rfl ⟨tv,tR 3 (fullB (preB v (i+1))) 32,tv⟩ ⟨cnt oo,tv⟩ ⟨Fz.r F,(congrArg (fun L=>SB.arr 290 1 L 32) d).trans (xG _ (fullB (preB v (i+1))) 32).symm,tv⟩⟩
 ·have E:i=8:=by omega
  subst E;have a:fullB (preB v 8)=eW v:=by rw[BH];unfold fullB;rw[DT];simp
  have c:(fullB (preB v 8)).length=32:=by rw[a];rfl
  have D:List.take 32 (List.drop 0 ((fullB (preB v 8)).map encB))=(eW v).map fun b=>[SA.int .u8 b.toNat]:=by
   rw[y8,ql (by rw[qa,c];exact qi _),a];rfl
  refine brd ss ⟨(by show 0+32<=_;rw[qa,c];exact qi 32),_,rfl,eW v,D,?_⟩;exact endPu rfl (Fz.r F) rfl rfl
end Go.Proofs.YtfnkamphhpldcaaGreatDoor
namespace Sx
open Go Go.RowKit
variable {P:Program} {C:Ctx} {ρ:Rho} {h:Hp} {nx:Nat} {w:World}
theorem Sat.putObj(s:Sat C ρ h nx w){l:Nat}{o:Obj}(g:∀i k,St.owns h i k->ρ i k≠l)(p:C.w0.heap.size<=l):Sat C ρ h nx (w.putObj l o)where
 lt:=s.lt
 blk:=fun i e c k d=>by
  obtain⟨n,m,a⟩:=s.blk i e c k d;exact⟨n,(World.putObj_heap_other (g i k ⟨e,c,d⟩)).trans m,a⟩
 wf:=s.wf
 inj:=s.inj
 anch:=s.anch
 n0:=s.n0
 n1:=s.n1
 os:=s.os
 tape:=s.tape
 output:=s.output
 size:=by have:=s.size;simpa[World.putObj]using this
 fr:=fun b f j=>(World.putObj_heap_other oo).trans (s.fr b f j)
 own:=s.own
 fz:=s.fz
 id0:=s.id0
 only:=s.only
 lnk:=s.lnk
theorem DU{f:FuncId}{args:List SV}{K:Out->Hp->Nat->Prop}{vs:List Value}(A:za6 P f args h nx K)(S:Sat C ρ h nx w)(J:relL ρ args vs)(G:∀s∈args,s.below nx):
  Calls P f vs.toArray w fun e x=>∃out p g o,K out p g/\out.rel o e/\Sat C o p g x/\(∀i,i < nx->o i=ρ i)/\nx<=g/\(∀b,b < w.heap.size->(∀i k,i≠0->St.owns h i k->ρ i k≠b)->x.heap[b]? =w.heap[b]?):=by
 unfold za6 at A
 let q:Ctx:={ w0:=w,ρ0:=ρ,n0:=nx,B:=fun b=>∃i k,i≠0/\St.owns h i k/\ρ i k=b,R:=fun k=>St.owns h 0 k }
 have E:Sat q ρ h nx w:={ S with
  anch:=fun _ _ _=>rfl
  n0:=qi _
  n1:=S.pos
  os:=rfl
  tape:=rfl
  output:=rfl
  size:=qi _
  fr:=fun _ _ _=>rfl
  own:=fun i k ho=>by
   by_cases hi:i=0
   ·subst hi;exact .inl ⟨rfl,ho⟩
   ·exact .inr (.inl ⟨i,k,hi,ho,rfl⟩) }
 refine(A q ρ w vs E J G).2.mono ?_;rintro e x ⟨out,p,g,o,I,ho,l,m,n,_⟩
 have u:∀b,b < C.w0.heap.size->¬C.B b->¬q.B b:=by
  rintro b c d ⟨i,k,hi,a,rfl⟩;rcases S.own i k a with h1 | h1 | h1
  ·exact hi h1.1
  ·exact d h1
  ·omega
 refine⟨out,p,g,o,I,ho,?_,m,n,fun b c d=>l.fr b c ?_⟩
 ·exact{ l with
   anch:=fun i hi k=>by rw[m i (y4 hi S.n0)];exact S.anch i hi k
   n0:=q8 S.n0 n
   n1:=S.n1
   os:=l.os.trans S.os
   tape:=l.tape.trans S.tape
   output:=l.output.trans S.output
   size:=q8 S.size l.size
   fr:=fun b c d=>(l.fr b (y4 c S.size) (u b c d)).trans (S.fr b c d)
   own:=fun i k a=>by
    rcases l.own i k a with⟨rfl,h1⟩ | ⟨j,k',hj,hown',D⟩ | h1
    ·have y:=S.own 0 k h1;rw[S.id0]at y;rw[l.id0];exact y
    ·rcases S.own j k' hown' with h3 | h3 | h3
     ·exact absurd h3.1 hj
     ·exact .inr (.inl (D▸h3))
     ·exact .inr (.inr (D▸h3))
    ·exact .inr (.inr (q8 S.size h1)) }
 ·rintro⟨i,k,hi,a,rfl⟩;exact d i k hi a rfl
end Sx
namespace Sx
open Go Go.RowKit
section
variable {P:Program} {Θ:Tys}
theorem Sat.trashC{C:Ctx}{ρ:Rho}{h:Hp}{nx:Nat}{w a:World}(s:Sat C ρ h nx w){i:Nat}{e:Ent}(g:lget h i=some e)(u:e.plain=true)(p:e.has 0)(q:∀k,e.has k->k=0){f:Obj}(m:a.os=w.os)(B:a.tape=w.tape)(A:a.output=w.output)(n:a.heap.size=w.heap.size)
  (c:a.heap[ρ i 0]? =some f)(d:∀b,b≠ρ i 0->a.heap[b]? =w.heap[b]?):Sat C ρ (lput (lput h i (.one (.obj f))) i .gone) nx a:=by
 have y:=s.lt i _ g;have j:=s.ne0 g u;refine Sat.forget (s.upd (e':=.one (.obj f)) 0 g u rfl p ?_ f ?_ rfl trivial m B A n c d) y j
 ·intro o;constructor
  ·rintro rfl;exact p
  ·intro h;exact q o h
 ·intro o l x;exact absurd (q o x) l
abbrev colH(h:Hp)(i:Nat):Hp:=lput (lput h i (.one (.obj (.deferred none)))) i .gone
def colQ(Θ:Tys)(b:List ResultVar)(K:Out->Hp->Nat->Prop)(a:St):Prop:=
 match a.d with
 |[]=>sres Θ a b fun v=>K (.ret v) a.h a.nx
 |[(.col,[.iter i k])]=>k=0/\lget a.h i=some (.one (.obj (.deferred (some []))))/\sres Θ { a with h:=colH a.h i } b fun v=>K (.ret v) (colH a.h i) a.nx
 |_=>False
def endQC(Θ:Tys)(a:List ResultVar)(K:Out->Hp->Nat->Prop):SE->St->Prop:=fun e b=>
 match e with
 |.normal=>colQ Θ a K b
 |.ret=>colQ Θ a K b
 |_=>False
theorem Aw(hΘ:Θ.Ok P){f:FuncId}{fn:Func}{c:Code}{args:List SV}{h:Hp}{nx:Nat}{K:Out->Hp->Nat->Prop}(hf:P.funcs[f]? =some fn)(L:fn.body=some c)(hn:(fn.name== "runtime.NumGoroutine")=false)
  (nt:Nat)(rs:List ResultVar)(ac:fn.ntmps=nt)(I:fn.results.toList=rs)(hl:Nat.ble args.length nt=true)
  (hx:WP P c ⟨[dV 0 args],h,nx,nx,nt,[]⟩ (endQC Θ rs K)):za6 P f args h nx K:=by
 unfold za6;intro C ρ w vs S j Q;refine⟨enters_of hf L hn,?_⟩;unfold WP at hx
 let A:Ctx:={ C with ρ0:=ρ,n0:=nx }
 have S1:Sat A ρ h nx w:={ S with anch:=fun _ _ _=>rfl,n0:=qi _,n1:=S.pos }
 have aa:=ki j;have ab:=nb hl
 have D:Den A ρ ⟨[dV 0 args],h,nx,nx,nt,[]⟩ { tmps:=vs.toArray++Array.replicate (fn.ntmps - vs.toArray.size) undef,defers:=[] } w:=by
  refine{ sat:=S1,nt:=?_,tm:=?_,tw:=?_,n0:=rfl,df:=rfl,dw:=by simp }
  ·simp;omega
  ·intro n s p;simp only[lget]at p;split at p
   ·rename_i v W;cases p
    obtain⟨u,_,E,h3,_⟩:=fs (nx:=nx) args vs 0 n s j W;simp only[qa5]at E;refine⟨u,?_,h3⟩;rw[qa8 (by simpa using(qg.1 E).1)];simpa using E
   ·simp at p
  ·intro n s p;simp only[lget]at p;split at p
   ·rename_i v W;cases p
    obtain⟨u,_,_,_,h4⟩:=fs (nx:=nx) args vs 0 n s j W;exact Q s h4
   ·simp at p
 refine callsIn_wide.1 (callsIn_of_wp_marks (F:=Fence.wide) (n:=0) hf L trivial (wpIn_wide.2 (wp_mono (hx A ρ _ w D) ?_)) rfl);rintro e O J ⟨se,a,g,M,rfl,d⟩
 have x:∀{E:Hp} {w2:World},Sat A g E a.nx w2->Sat C g E a.nx w2:=fun B=>{ B with
  anch:=fun i y k=>by rw[B.anch i (y4 y S.n0) k];exact S.anch i y k
  n0:=q8 S.n0 B.n0
  n1:=S.n1 }
 have G:∀i,i < nx->g i=ρ i:=fun i y=>funext fun k=>d.sat.anch i y k
 have ret:colQ Θ rs K a->LeavesInM Fence.wide 0 P fn O.tmps (fun e J=>∃out h' q g,K out h' q/\out.rel g e/\Sat C g h' q J/\(∀i,i < nx->g i=ρ i)/\nx<=q/\(match out with | .ret s=>s.below q | .panic _=>True)) O.defers .returning J:=by
  intro m;unfold colQ at m;have l:=d.df;split at m
  ·rename_i R;rw[R]at l;rw[l];rw[<-I]at m;obtain⟨v,sv,X,Y,Z,r4⟩:=jM hΘ d m;exact⟨v,X,.ret sv,a.h,a.nx,g,r4,⟨v,rfl,Y⟩,x d.sat,G,d.sat.n0,Z⟩
  ·rename_i i k R;obtain⟨rfl,y,m⟩:=m;rw[R]at l;rw[l];obtain⟨o,ho,U⟩:=d.sat.blk i _ y 0 rfl;have V:o=.deferred (some []):=U;subst V;have T:=(jk.1 ho).1
   have B:Sat A g (colH a.h i) a.nx (J.putObj (g i 0) (.deferred none)):=
    d.sat.trashC y rfl rfl (fun _ h=>h) rfl rfl rfl (by simp[World.putObj]) (World.putObj_heap_same T) (fun b L=>World.putObj_heap_other L)
   have D2:Den A g { a with h:=colH a.h i } O (J.putObj (g i 0) (.deferred none)):={ sat:=B,nt:=d.nt,tm:=d.tm,tw:=d.tw,n0:=d.n0,df:=d.df,dw:=d.dw }
   rw[<-I]at m;obtain⟨v,sv,X,Y,Z,r4⟩:=jM hΘ D2 m;refine⟨by simp,.inl ⟨_,_,rfl,run_takeDeferred ho,?_⟩⟩;exact⟨v,X,.ret sv,_,a.nx,g,r4,⟨v,rfl,Y⟩,x B,G,d.sat.n0,Z⟩
  ·exact m.elim
 cases se with
 |normal=>exact ret M
 |ret=>exact ret M
 |exit id=>exact M.elim
 |panic v=>exact M.elim
end
variable {P:Program} {C:Ctx} {ρ:Rho} {h:Hp} {nx:Nat} {w:World}
theorem Sat.same{d:Hp}(s:Sat C ρ h nx w)(a:∀i,lget d i=lget h i):Sat C ρ d nx w where
 lt:=fun i e h1=>s.lt i e (by rw[<-a];exact h1)
 blk:=fun i e h1=>s.blk i e (by rw[<-a];exact h1)
 wf:=fun i e h1=>s.wf i e (by rw[<-a];exact h1)
 inj:=fun i k i' j ⟨e,h1,c⟩ ⟨e',f,g⟩=>s.inj i k i' j ⟨e,by rw[<-a];exact h1,c⟩ ⟨e',by rw[<-a];exact f,g⟩
 anch:=s.anch
 n0:=s.n0
 n1:=s.n1
 os:=s.os
 tape:=s.tape
 output:=s.output
 size:=s.size
 fr:=s.fr
 own:=fun i k ⟨e,h1,c⟩=>s.own i k ⟨e,by rw[<-a];exact h1,c⟩
 fz:=by rw[a];exact s.fz
 id0:=s.id0
 only:=fun i F h1=>s.only i F (by rw[<-a];exact h1)
 lnk:=fun i b h1=>s.lnk i b (by rw[<-a];exact h1)
theorem Sat.adopt(s:Sat C ρ h nx w){D:Nat}{o:Obj}(E:w.heap[D]? =some o)(u:C.w0.heap.size<=D)(p:∀i k,St.owns h i k->ρ i k≠D):Sat C (rext ρ nx D) (lput h nx (.one (.obj o))) (nx+1) w:=by
 have a:∀i,i < nx->rext ρ nx D i=ρ i:=fun i b=>eA b
 have c:∀i k,St.owns h i k->i < nx:=fun i k ⟨e,d,_⟩=>s.lt i e d
 refine{ lt:=?_,blk:=?_,wf:=?_,inj:=?_,anch:=?_,n0:=qbe s.n0,n1:=s.n1,os:=s.os,tape:=s.tape,output:=s.output,size:=s.size,fr:=s.fr,own:=?_,fz:=by rw[aM _ _ _ _ (qcy s.pos)];exact s.fz,id0:=fun k=>by rw[a 0 s.pos];exact s.id0 k,only:=?_,lnk:=?_ }
 ·intro i e d;by_cases b:i=nx
  ·omega
  ·rw[aM _ _ _ _ b]at d;have:=s.lt i e d;omega
 ·intro i e d k j;by_cases b:i=nx
  ·subst b;rw[aR]at d;cases d
   exact⟨o,by rw[dm];exact E,rfl⟩
  ·rw[aM _ _ _ _ b]at d;have y:=s.lt i e d;obtain⟨I,g,n⟩:=s.blk i e d k j;exact⟨I,by rw[a i y];exact g,SB.ok_congr a (s.wf i e d k j) n⟩
 ·intro i e d k j;by_cases b:i=nx
  ·subst b;rw[aR]at d;cases d;trivial
  ·rw[aM _ _ _ _ b]at d;exact SB.below_mono (qaf _) (s.wf i e d k j)
 ·intro i k i' J h1 B f;rcases eD h1 with⟨rfl,j⟩ | ⟨b,l⟩<;>rcases eD B with⟨rfl,x⟩ | ⟨G,g⟩
  ·simp only[Ent.has]at j x;exact⟨rfl,by omega⟩
  ·rw[dm,a i' (c _ _ g)]at f;exact absurd f.symm (p _ _ g)
  ·rw[dm,a i (c _ _ l)]at f;exact absurd f (p _ _ l)
  ·rw[a i (c _ _ l),a i' (c _ _ g)]at f;exact s.inj _ _ _ _ l g f
 ·intro i b k;have:=s.n0;rw[a i oo];exact s.anch i b k
 ·intro i k h1;rcases eD h1 with⟨rfl,j⟩ | ⟨b,l⟩
  ·right;right;rw[dm];exact u
  ·rw[a i (c _ _ l)];exact s.own _ _ l
 ·intro i F q;by_cases b:i=nx
  ·subst b;rw[aR]at q;cases q
  ·rw[aM _ _ _ _ b]at q;exact s.only i F q
 ·intro i A m k;by_cases b:i=nx
  ·subst b;rw[aR]at m;cases m
  ·rw[aM _ _ _ _ b]at m;rw[a i (s.lt i _ m)];exact s.lnk i A m k
section
variable {n l:Nat} {a:Act} {ops:Array Oper} {Q:Exit->Act->World->Prop} {rest:List Oper} {o:Oper}
theorem sS{F:Fence}{x:Operand}{v:Value}(ho:o.op=.move x\/o.op=.assign x)(m:o.guard=none)(j:a.eval x=v)(h:wpListIn F n P ops Q rest (a.put o.dst v) w):wpListIn F n P ops Q (o::rest) a w:=by
 have b:Region.wanted o (yielded ops a.tmps)=true:=by simp[Region.wanted,m]
 simp only[wpListIn,b,if_true];have g:∀c,o.op≠.defer c:=by rintro c e;rcases ho with ho | ho<;>rw[ho]at e<;>cases e
 refine⟨fun f k=>?_,?_⟩
 ·rcases ho with ho | ho<;>simp[Oper.about,ho]at k
 ·rw[Oper.semAt_eq _ _ _ g];obtain⟨i,p,type,pos,d,guard⟩:=o;subst j;rcases ho with ho | ho<;>simp only at ho<;>subst ho
  ·simpa[execOp,Oper.uponIn]using h
  ·simpa[execOp,Oper.uponIn]using h
theorem CS{f:FuncId}{args:Array Operand}{ts:Array TypeId}{vs:Array Value}{R:Ending->World->Prop}(p:o.op=.call ⟨.value (.func f),args,ts⟩)(A:o.guard=none)(q:Enters P f)(B:args.map a.eval=vs)(x:Calls P f vs w R)
  (h:∀e i,R e i->∃v,e=.returned v/\wpListIn (Fence.wide.inRound l) n P ops Q rest (a.put o.dst v) i):wpListIn (Fence.wide.inRound l) n P ops Q (o::rest) a w:=by
 have d:Region.wanted o (yielded ops a.tmps)=true:=by simp[Region.wanted,A]
 simp only[wpListIn,d,if_true];have m:∀c,o.op≠.defer c:=by rintro c e;rw[p]at e;cases e
 refine⟨fun _ _=>trivial,?_⟩;rw[Oper.semAt_eq _ _ _ m];obtain⟨j,D,type,pos,b,guard⟩:=o;simp only at p;subst p;unfold Enters at q
 have g:(execOp a.eval ⟨j,.call ⟨.value (.func f),args,ts⟩,type,pos,b,guard⟩).run P w=.ok (.enter f vs) w:=by
  simp[execOp,resolve,Act.eval,Deferred.ofValue,invoke,B,q]
 simp only[g,Oper.uponIn];refine⟨fun y=>by simp[Fence.wide]at y,?_⟩;have k:CallsIn Fence.wide (n - 1) P f vs w R:=callsIn_wide.2 x;refine CallsIn.mono (F:=Fence.wide) k ?_;intro e i u;obtain⟨v,rfl,s⟩:=h e i u;exact s
end
end Sx
namespace Go.Proofs.YtfnkamphhpldcaaGreatDoor
open Go Go.RowKit Sx Tryz
set_option maxRecDepth 100000
theorem sV(k:Nat)(L:List UInt8)(v:W8):cC (k+1) L v=fC ((L.drop (64*k)).take 64) (cC k L v):=by
 unfold cC;rw[qct,qbd,qai,qbt]
theorem sW(L:List UInt8)(v:W8):cC 0 L v=v:=by
 unfold cC;rw[List.range_zero,qbt]
theorem tA(k:Nat)(L:List UInt8)(v:W8)(h:v.Ok):(cC k L v).Ok:=by
 cases k with
 |zero=>rw[sW];exact h
 |succ k=>rw[sV];exact Cw _ _
theorem cell_of{C:Ctx}{ρ:Rho}{h:Hp}{nx:Nat}{w:World}(S:Sat C ρ h nx w){i t:Nat}{x:SA}(b:lget h i=some (.one (.cells t [x]))):w.cell? ⟨ρ i 0,0,none⟩=some (x.den ρ):=by
 obtain⟨o,c,a⟩:=S.blk i _ b 0 rfl;have d:RowAt w (ρ i 0) t [x.den ρ]:=⟨o,c,a⟩
 rw[d.cell 0];rfl
abbrev wE(v:W8):Ent:=.one (.cells 246 (w8 v))
theorem C3{F1:Fz}(hR:RNDF F1){f:St}{Q:SE->St->Prop}{ih is inn ib r c m n0:Nat}{b:Nat->Nat}{v:W8}(hv:v.Ok){L:List UInt8}(av:n0=64*m)(hL:L.length=64*m)(hm:m<=1000000000000000)(hc:64*m<=c)
  (h3:lget f.t 3=some (.va (.ptr ⟨ih,0,0,0,0⟩)))(ak:lget f.t 34=some (.va (.fn (.func 229) [⟨is,0,0,0,0⟩,⟨inn,0,0,0,0⟩])))(O:f.nt=40)(hd:f.d=[])
  (hF:lget f.h 0=some (.frz F1))(U:lget f.h ih=some (wE v))(hs:lget f.h is=some (.one (.cells 81 [.slice false ib 0 0 1 n0 c])))(hn:lget f.h inn=some (.one (.cells 3 [.int .i64 64])))(hb:lget f.h ib=some (.lnk b))(af:F1 (b 0)=some (.arr 5 1 (L.map encB) r))
  {o1 o2 o3:Oper}{i1 i2 i3:Nat}{ts:Array TypeId}(p1:o1.op=.assign (.tmp 35))(p2:o1.dst=some 6)(p3:o1.guard=none)(p4:o2.op=.move (.tmp 6))(p5:o2.dst=some 36)(p6:o2.guard=none)(p7:o3.op=.call ⟨.value (.func 175),#[.tmp 3,.tmp 36],ts⟩)(p8:o3.guard=none)
  (hQ:Q .normal { f with h:=lput (lput f.h ih (wE (cC m L v))) f.nx (.one (.obj (.deferred (some [])))),nx:=f.nx+1,d:=[(.col,[.iter f.nx 0])] }):
  WP prog (.rangeFunc (.tmp 34) #[35] (.region i1 #[o1] false) (.block i2 (.region i3 #[o2,o3] false))) f Q:=by
 subst av;unfold WP;intro C ρ a w D;have nh:ih≠0:=D.sat.ne0 U rfl;have a3:is≠ih:=by rintro rfl;rw[U]at hs;cases hs
 have a2:inn≠ih:=by rintro rfl;rw[U]at hn;cases hn
 have a6:ib≠ih:=by rintro rfl;rw[U]at hb;cases hb
 have az:ib < f.nx:=D.sat.lt _ _ hb;have a1:is < f.nx:=D.sat.lt _ _ hs;have a0:inn < f.nx:=D.sat.lt _ _ hn;have X:ih < f.nx:=D.sat.lt _ _ U;obtain⟨u3,t3,e3⟩:=D.tm 3 _ h3;obtain⟨a4,t34,aj⟩:=D.tm 34 _ ak;have ai:u3=.pointer (some ⟨ρ ih 0,0,none⟩):=e3;have Z:a4=.func (.func 229) #[] #[.pointer (some ⟨ρ is 0,0,none⟩),.pointer (some ⟨ρ inn 0,0,none⟩)]:=aj;subst ai Z;have G:∀k i,i≠ih->lget (lput f.h ih (wE (cC k L v))) i=lget f.h i:=fun k i q=>aM _ _ _ _ q
 have p:∀k i j,St.owns (lput f.h ih (wE (cC k L v))) i j->St.owns f.h i j:=by
  rintro k i j ⟨e,M,hj⟩;by_cases q:i=ih
  ·subst q;rw[aR]at M;cases M;exact⟨_,U,hj⟩
  ·rw[G k i q]at M;exact⟨e,M,hj⟩
 have ar:∀(args:Array Value) (w:World),(callFunc 229 args).run prog w=.ok (.enter 229 args) w:=by
  have h:=Sx.enters_of (P:=prog) func229 rfl dd;unfold Sx.Enters at h;exact h
 refine(wpIn_wide (n:=3)).1 (sK (F:=Fence.wide) (n:=3) rfl oo (gf:=229) (lb:=#[.pointer (some ⟨ρ is 0,0,none⟩),.pointer (some ⟨ρ inn 0,0,none⟩)]) ?hg trivial ar
  (En Fence.wide 2 trivial rfl oo (ρ is 0) (ρ inn 0) (ρ ib 0) m c hm hc) (fun _=>rfl)
  (fun k W=>∃B,(∀i,i < f.nx->B i=ρ i)/\Sat C B (lput f.h ih (wE (cC k L v))) f.nx W) ?ok ?drew ?put ?h0
  (fun k=>{ tmps:=(a.tmps.setIfInBounds 35 (.slice (some ⟨ρ ib 0,64*k,none⟩) 64 64)).setIfInBounds 6 (.slice (some ⟨ρ ib 0,64*k,none⟩) 64 64),defers:=[] }) ?assign ?body ?done)
 case hg=>simp[Act.eval,t34]
 case ok=>
  rintro k A ⟨B,g,S⟩;refine⟨?_,?_⟩
  ·have:=cell_of S (by rw[G k is a3];exact hs);rw[g is a1]at this;rw[this];simp[SA.den,g ib az]
  ·have:=cell_of S (by rw[G k inn a2];exact hn);rw[g inn a0]at this;exact this
 case drew=>rintro k A ⟨B,g,S⟩;exact⟨B,g,S.drew⟩
 case put=>
  rintro k A l o o' hl hA ao ⟨B,g,S⟩;refine⟨B,g,S.putObj (fun i j T=>?_) (q8 D.sat.size hl)⟩;have h1:=D.sat.blt (p k i j T);rw[<-g i (by obtain⟨e,M,_⟩:=p k i j T;exact D.sat.lt _ _ M)]at h1;omega
 case h0=>
  intro o1 o2;refine⟨ρ,fun _ _=>rfl,?_⟩;refine(D.sat.same fun i=>?_).belowW (((Below.refl _ w).alloc (qi _) _).alloc ss _);by_cases q:i=ih
  ·subst q;rw[aR,U,sW]
  ·exact G 0 i q
 case assign=>
  intro l k W K _ hK;refine wpIn_region_list ?_;refine sS (.inr p1) p3 (v:=.slice (some ⟨ρ ib 0,64*k,none⟩) 64 64) ?_ ?_
  ·have:35 < a.tmps.size:=by rw[D.nt,O];omega
   simp[Act.eval,qM,this]
  ·rw[p2];refine(congrArg (fun x=>K x W) ?_).mpr hK;simp[Act.put,qM]
 case body=>
  rintro l k W hk ⟨B,g,S⟩ ⟨x1,ax⟩ ⟨x2,ay⟩;refine wpIn_block (wpIn_region_list ?_);refine sS (.inl p4) p6 (v:=.slice (some ⟨ρ ib 0,64*k,none⟩) 64 64) ?_ ?_
  ·have h6:6 < a.tmps.size:=by rw[D.nt,O];omega
   simp[Act.eval,h6]
  rw[p5]
  have ag:Sl F1 5 1 encB (.slice false 0 (b 0) (64*k) 1 64 64) ((L.drop (64*k)).take 64):=by
   have E:((L.drop (64*k)).take 64).length=64:=by rw[qk,yj];omega
   refine⟨false,b 0,64*k,64,L.map encB,r,by rw[E],(fun h=>by cases h),fun _=>af,by rw[E,qa];omega,?_⟩;rw[E,qdb,List.map_drop]
  have E:((L.drop (64*k)).take 64).length=64:=by rw[qk,yj];omega
  have ac:=ycf F1 hR _ _ (cC k L v) ag E (tA k L v hv);have aa:lget (lput f.h ih (wE (cC k L v))) 0=some (.frz F1):=by rw[G k 0 (Ne.symm nh)];exact hF
  have ab:lget (lput f.h ih (wE (cC k L v))) ih=some (wE (cC k L v)):=aR _ _ _;have V:resP (lput f.h ih (wE (cC k L v))) ih 0=(ih,0):=by unfold resP;rw[ab]
  have J:resP (lput f.h ih (wE (cC k L v))) 0 (b 0)=(0,b 0):=by unfold resP;rw[aa]
  have aq:za6 prog 175 [.va (.ptr ⟨ih,0,0,0,0⟩),.va (.slice false 0 (b 0) (64*k) 1 64 64)] (lput f.h ih (wE (cC k L v))) f.nx
    (fun out h' ah=>out=.ret (.tup [])/\ah=f.nx/\∀i,lget h' i=lget (lput f.h ih (wE (cC (k+1) L v))) i):=by
   refine use ac [(1,.to ih)] aa ⟨?_,⟨rfl,rfl,rfl,.inr ⟨?_,?_,rfl,rfl⟩⟩,tv⟩ ?_ ⟨fi 2 246 (cC k L v),tv⟩ (by simp[SV.below,SA.below]) ⟨?_,tv⟩ ?_
   ·show SA.ptr _=SA.ptr ⟨(resP (lput f.h ih (wE (cC k L v))) ih 0).1,(resP (lput f.h ih (wE (cC k L v))) ih 0).2,0,0,0⟩;rw[V];rfl
   ·show 0=(resP (lput f.h ih (wE (cC k L v))) 0 (b 0)).1;rw[J]
   ·show b 0=(resP (lput f.h ih (wE (cC k L v))) 0 (b 0)).2;rw[J]
   ·have e1:Nat.ble (ih+1) f.nx=true:=qbb X
    have e2:Nat.beq 0 ih=false:=by cases ih with
     |zero=>exact absurd rfl nh
     |succ n=>rfl
    simp[chkU,isTo,ky,injOn,sig,aget,Mv.at,wfl,Sx.distinct,covers,noFz,e1,e2]
   ·have hg:aget [(1,Mv.to ih)] 1=some (.to ih):=rfl;rw[hg];show subE (lget (lput f.h ih (wE (cC k L v))) ih) (Ent.ren (sig [(1,Mv.to ih)]) (Ent.one (SB.cells 246 (w8 (cC k L v)))));rw[ab];rfl
   ·rintro _ F2 _ _ _ ⟨rfl,an,rfl,rfl⟩;rw[an];refine⟨rfl,rfl,fun i=>?_⟩;show lget (lput (lput (lput f.h ih (wE (cC k L v))) ih _) 0 (.frz F1)) i=_;by_cases h0:i=0
    ·subst h0;rw[aR,aM _ _ _ _ (Ne.symm nh)];exact hF.symm
    ·rw[aM _ _ _ _ h0];by_cases h1:i=ih
     ·subst h1;rw[aR,aR,sV];rfl
     ·rw[aM _ _ _ _ h1,aM _ _ _ _ h1,aM _ _ _ _ h1]
  have ap:=DU aq S (vs:=[.pointer (some ⟨ρ ih 0,0,none⟩),.slice (some ⟨ρ ib 0,64*k,none⟩) 64 64]) ?hrel ?hbel
  ·have ad:Sx.Enters prog 175:=Sx.enters_of func175 rfl dd;refine CS p7 p8 ad ?_ ap ?_
   ·have h6:6 < a.tmps.size:=by rw[D.nt,O];omega
    have al:36 < a.tmps.size:=by rw[D.nt,O];omega
    simp[Act.eval,Act.put,al,t3]
   ·rintro e w' ⟨out,h',ah,ρ2,⟨rfl,rfl,au⟩,⟨u,rfl,_⟩,S2,I,_,ae⟩;refine⟨u,rfl,?_⟩;show(∀b,(b=w.heap.size\/b=w.heap.size+1)->w'.heap[b]? =W.heap[b]?)/\_
    have R:∀bb,w.heap.size<=bb->∀i j,i≠0->St.owns (lput f.h ih (wE (cC k L v))) i j->B i j≠bb:=fun bb a5 i j _ T=>by
     have h1:=D.sat.blt (p k i j T);rw[<-g i (by obtain⟨e,M,_⟩:=p k i j T;exact D.sat.lt _ _ M)]at h1;omega
    refine⟨?_,ρ2,fun i q=>by rw[I i q,g i q],S2.same fun i=>(au i).symm⟩;rintro bb (rfl | rfl)
    ·exact ae _ (jk.1 ax).1 (R _ (qi _))
    ·exact ae _ (jk.1 ay).1 (R _ (qaf _))
  case hrel=>
   have f1:B ih=ρ ih:=g ih X;have f2:B 0 (b 0)=ρ ib 0:=by rw[S.id0,D.sat.lnk ib b hb 0]
   refine⟨?_,?_,tv⟩
   ·show _=Value.pointer (some ⟨B ih 0,0*0+0,none⟩);rw[f1]
   ·show _=Value.slice (some ⟨B 0 (b 0),64*k*1,none⟩) 64 64;rw[f2,qcq]
  case hbel=>
   intro s hs;rcases qh.1 hs with rfl | hs
   ·exact X
   ·rcases qs.1 hs with rfl;exact .inr S.pos
 case done=>
  rintro Y W hD ⟨B,g,S⟩ am
  have aw:∀i j,St.owns (lput f.h ih (wE (cC m L v))) i j->B i j≠Y:=fun i j T=>by
   have h1:=D.sat.blt (p m i j T);rw[<-g i (by obtain⟨e,M,_⟩:=p m i j T;exact D.sat.lt _ _ M)]at h1;omega
  have S2:=S.adopt am (q8 D.sat.size hD) aw;refine⟨.normal,_,rext B f.nx Y,hQ,rfl,?_⟩;have I:∀i,i < f.nx->rext B f.nx Y i=ρ i:=fun i q=>by rw[eA q,g i q]
  exact{ sat:=S2,nt:=D.nt,n0:=D.n0
         tm:=fun i s q=>by
          obtain⟨u,hu,hr⟩:=D.tm i s q;exact⟨u,hu,SV.rel_congr I (D.tw i s q) hr⟩
         tw:=fun i s q=>SV.below_mono (qaf _) (D.tw i s q)
         df:=by
          show{ target:=.collected Y,args:=#[] }::a.defers=[defOf (rext B f.nx Y) (.col,[.iter f.nx 0])];rw[D.df,hd];simp[defOf,defV,SA.den,blkOf,dm]
         dw:=by
          intro x hx y hy;rcases qs.1 hx with rfl;rcases qs.1 hy with rfl;exact qcm _ }
end Go.Proofs.YtfnkamphhpldcaaGreatDoor
namespace Go.Proofs.YtfnkamphhpldcaaGreatDoor
open Go Sx Tryz
set_option maxRecDepth 100000
def padJ(s:List UInt8)(j:Nat):List UInt8:=s++[128]++List.replicate j 0
theorem xz(s:List UInt8)(j:Nat):(padJ s j).length=s.length+1+j:=by simp[padJ];omega
theorem zD(s:List UInt8)(j:Nat):padJ s (j+1)=padJ s j++[0]:=by
 unfold padJ;rw[qa1,<-qj]
def lenJ(s:List UInt8)(i:Nat):List UInt8:=padJ s (padZ s.length)++(len8 s.length).take i
theorem wz(s:List UInt8){i:Nat}(h:i<=8):(lenJ s i).length=s.length+1+padZ s.length+i:=by
 have:(len8 s.length).length=8:=rfl;simp[lenJ,xz];omega
theorem Ey(n:Nat):(n+1+padZ n) % 64=56/\padZ n < 64/\∀j,j < padZ n->(n+1+j) % 64≠56:=by
 unfold padZ;refine⟨by omega,by omega,fun j a=>by omega⟩
abbrev rowY(L:List UInt8)(c:Nat):Ent:=.one (.arr 5 1 (L.map encB) c)
theorem kl(μ:Mu)(L:List UInt8)(c:Nat):(SB.arr 5 1 (L.map encB) c).ren μ=SB.arr 5 1 (L.map encB) c:=by
 show SB.arr 5 1 ((L.map encB).map (List.map (SA.ren μ))) c=_;rw[jq];congr 1
theorem jH(n:Nat)(L:List UInt8)(c:Nat):(SB.arr 5 1 (L.map encB) c).below n:=by
 intro x d a b;obtain⟨s,_,rfl⟩:=qz.1 d;rcases qs.1 b with rfl;trivial
def lb(n i:Nat):UInt8:=(len8 n)[i]?.getD 0
theorem zj(s:List UInt8){i:Nat}(h:i < 8):lenJ s (i+1)=lenJ s i++[lb s.length i]:=by
 unfold lenJ lb;rw[qf (show i < (len8 s.length).length from h),qj,qc (show i < (len8 s.length).length from h)];rfl
theorem Bl{i:Nat}(h:i < 8):0<=IntKind.i64.wrap (8*(7 - (i:Int))):=by rw[aI oo oo];omega
theorem lenB{n:Nat}(d:Nat)(b:n<=1000000000000)(a:d<=56):IntKind.u8.wrap (shrI .i64 (IntKind.i64.wrap (8*(n:Int))) (d:Int))=((UInt8.ofNat (8*n / 2^d)).toNat:Int):=by
 have e:shrI .i64 (IntKind.i64.wrap (8*(n:Int))) (d:Int)=((8*n / 2^d:Nat):Int):=by
  unfold shrI;rw[aI oo oo,qn,show IntKind.i64.bits=64 from rfl,qaq oo,qa9 _ (by have:=qd3 (n:=2) (m:=d) oo;omega)]
  push_cast;rfl
 rw[e,qay];show((8*n / 2^d:Nat):Int) % 256=_;omega
theorem yax{n i:Nat}(b:n<=1000000000000)(h:i < 8):IntKind.u8.wrap (shrI .i64 (IntKind.i64.wrap (8*(n:Int))) (IntKind.i64.wrap (8*(7 - (i:Int)))))=((lb n i).toNat:Int):=by
 have e:IntKind.i64.wrap (8*(7 - (i:Int)))=((8*(7 - i):Nat):Int):=by rw[aI oo oo];omega
 rw[e,lenB _ b oo];have a:i=0\/i=1\/i=2\/i=3\/i=4\/i=5\/i=6\/i=7:=by omega
 rcases a with rfl | rfl | rfl | rfl | rfl | rfl | rfl | rfl
 ·rfl
 ·rfl
 ·rfl
 ·rfl
 ·rfl
 ·rfl
 ·rfl
 ·show(((UInt8.ofNat (8*n / 2^0)).toNat:Nat):Int)=(((UInt8.ofNat (8*n)).toNat:Nat):Int);rw[Nat.pow_zero,Nat.div_one]
theorem r7{P:Program}{Θ:Tys}(hΘ:Θ.Ok P){f:FuncId}{fn:Func}{c:Code}{args:List SV}{F:Fz}{Q:Out->Fz->Prop}(g:P.funcs[f]? =some fn)(e:fn.body=some c)(i:(fn.name== "runtime.NumGoroutine")=false)
  (nt:Nat)(d:List ResultVar)(a:fn.ntmps=nt)(b:fn.results.toList=d)(h:Nat.ble args.length nt=true)
  (j:sx P Θ c ⟨[dV 0 args],[[(0,.frz F)]],1,1,nt,[]⟩ (endQC Θ d (Cln 1 (FoK F Q)))):Fo P F f args Q:=
 Aw hΘ g e i nt d a b h (ec hΘ _ _ _ j)
theorem qZ:init8.Ok:=by constructor<;>decide
theorem zE(s:List UInt8):padded s=lenJ s 8:=by
 unfold padded lenJ padJ;rw[ql (show(len8 s.length).length<=8 from qi 8)]
theorem yd0(F:Fz)(Y:RNDF F)(s:List UInt8)(hs:s.length<=1000000000000):Fo prog F 114 [.va (.str s)] (fun o _=>o=.ret (.va (.str (sumS s)))):=by
 have B:∀c,SB.arr 5 1 (s.map encB++[encB 128]) c=SB.arr 5 1 ((padJ s 0).map encB) c:=fun c=>by simp[padJ]
 have G:∀j c,SB.arr 5 1 ((padJ s j).map encB++[encB 0]) c=SB.arr 5 1 ((padJ s (j+1)).map encB) c:=fun j c=>by rw[zD,qo];rfl
 have D:∀j c,j=padZ s.length->SB.arr 5 1 ((padJ s j).map encB) c=SB.arr 5 1 ((lenJ s 0).map encB) c:=fun j c h=>by rw[lenJ,List.take_zero,qy,h]
 have E:∀i,i < 8->∀c,SB.arr 5 1 ((lenJ s i).map encB++[encB (lb s.length i)]) c=SB.arr 5 1 ((lenJ s (i+1)).map encB) c:=fun i l c=>by rw[zj s l,qo];rfl
 have hz:=Ey s.length;obtain⟨m,V⟩:∃m,s.length+1+padZ s.length+8=64*m:=⟨(s.length+1+padZ s.length+8) / 64,by omega⟩
 have q:(lenJ s 8).length=64*m:=by rw[wz s (qi 8)];exact V
 have w:sumS s=eW (cC m (lenJ s 8) init8):=by
  unfold sumS;rw[zE,q,Nat.mul_div_cancel_left m dd]
 have J:=tA m (lenJ s 8) init8 qZ;refine r7 hΘ func114 rfl dd _ _ rfl rfl rfl ?_;conv=>whnf
 intro c0 aa;refine⟨nb rfl,[encB 128],rfl,rfl,(qa _).symm,rfl,by show(s.length+1)*1<=_;omega,fun y L=>?_⟩;conv=>whnf
 refine aH hΘ (X:={ x:Nat×Nat // x.1<=padZ s.length/\s.length+1+x.1<=x.2 }) (fun x=>[(4,.va (.slice false 5 0 0 1 (s.length+1+x.1.1) x.1.2))]) [12,13,14,15,16,17,18] (fun x=>[(0,.frz F),(1,.one (.cells 246 (w8 init8))),(4,.gone),(5,rowY (padJ s x.1.1) x.1.2)]) 6 (fun x=>padZ s.length - x.1.1) ⟨(0,y),by simp,by simpa using L⟩
  (fun a d=>leI [(5,4)] a d rfl ⟨tv,fi 6 246 init8,tv,jH 6 (padJ s 0) y,tv⟩ ⟨⟨rfl,rfl,rfl,.inr ⟨rfl,rfl,rfl,rfl⟩⟩,tv⟩ ⟨Fz.r F,rfl,(B y).trans (kl _ (padJ s 0) y).symm,tv⟩) ?_
 rintro⟨⟨j,c⟩,U,k⟩ a d;replace U:j<=padZ s.length:=U;replace k:s.length+1+j<=c:=k;by_cases g:j < padZ s.length
 ·have ab:=hz.2.2 j g
  have u:¬((s.length+1+j:Nat):Int).tmod 64=56:=by
   rw[show((s.length+1+j:Nat):Int).tmod 64=(((s.length+1+j) % 64:Nat):Int)from rfl];omega
  refine⟨by decide,?_⟩;refine br (fun _=>?_) (fun h=>absurd h (by simpa using u));refine⟨nb rfl,[encB 0],rfl,rfl,(by show s.length+1+j=((padJ s j).map encB).length;rw[qa,xz]),rfl,by show(s.length+1+j+1)*1<=_;omega,fun c' e=>?_⟩
  exact⟨⟨(j+1,c'),by show j+1<=padZ s.length;omega,by have h1:s.length+1+j+1<=c':=e;show s.length+1+(j+1)<=c';omega⟩,by show padZ s.length - (j+1) < padZ s.length - j;omega,
   leR [(5,7)] a d rfl ⟨tv,fi 6 246 init8,tv,jH 6 (padJ s (j+1)) c',tv⟩ ⟨⟨rfl,rfl,rfl,.inr ⟨rfl,rfl,rfl,rfl⟩⟩,tv⟩ ⟨Fz.r F,rfl,(G j c').trans (kl _ (padJ s (j+1)) c').symm,tv⟩⟩
 ·have p:j=padZ s.length:=by omega
  have Q:((s.length+1+j:Nat):Int).tmod 64=56:=by
   rw[show((s.length+1+j:Nat):Int).tmod 64=(((s.length+1+j) % 64:Nat):Int)from rfl,p];omega
  refine⟨by decide,?_⟩;refine br (fun h=>absurd h (by simpa using Q)) (fun _=>?_);conv=>whnf
  refine aH hΘ (X:={ x:Nat×Nat // x.1<=8/\s.length+1+padZ s.length+x.1<=x.2 }) (fun x=>[(4,.va (.slice false 6 0 0 1 (s.length+1+padZ s.length+x.1.1) x.1.2)),(5,.va (.int .i64 (7 - (x.1.1:Int))))]) (jr 19 14 []) (fun x=>[(0,.frz F),(1,.one (.cells 246 (w8 init8))),(5,.gone),(6,rowY (lenJ s x.1.1) x.1.2)]) 7 (fun x=>8 - x.1.1) ⟨(0,c),by simp,by show s.length+1+padZ s.length+0<=c;omega⟩
   (fun a d=>leI [(6,5)] a d rfl ⟨tv,fi 7 246 init8,tv,jH 7 (lenJ s 0) c,tv⟩ ⟨⟨rfl,by show s.length+1+padZ s.length+0=s.length+1+j;omega,rfl,.inr ⟨rfl,rfl,rfl,rfl⟩⟩,rfl,tv⟩ ⟨Fz.r F,rfl,(D j c p).trans (kl _ (lenJ s 0) c).symm,tv⟩) ?_
  rintro⟨⟨i,c⟩,l,f⟩ a d;replace l:i<=8:=l;replace f:s.length+1+padZ s.length+i<=c:=f;by_cases A:i < 8
  ·have K:=yax (n:=s.length) hs A;have T:=Bl A;have O:=E i A;have R:IntKind.i64.wrap (7 - (i:Int) - 1)=7 - ((i+1:Nat):Int):=by rw[aI oo oo];omega
   refine br (fun _=>?_) (fun h=>absurd h (by simp;omega));refine⟨T,nb rfl,[encB (lb s.length i)],(by show[[SA.int .u8 _]]=_;exact congrArg (fun z=>[[SA.int .u8 z]]) K),rfl,(by show s.length+1+padZ s.length+i=((lenJ s i).map encB).length;rw[qa,wz s l]),rfl,by show(s.length+1+padZ s.length+i+1)*1<=_;omega,fun c' e=>?_⟩
   exact⟨⟨(i+1,c'),by show i+1<=8;omega,by have h1:s.length+1+padZ s.length+i+1<=c':=e;show s.length+1+padZ s.length+(i+1)<=c';omega⟩,by show 8 - (i+1) < 8 - i;omega,
    leR [(6,8)] a d rfl ⟨tv,fi 7 246 init8,tv,jH 7 (lenJ s (i+1)) c',tv⟩ ⟨⟨rfl,rfl,rfl,.inr ⟨rfl,rfl,rfl,rfl⟩⟩,eu R.symm,tv⟩ ⟨Fz.r F,rfl,(O c').trans (kl _ (lenJ s (i+1)) c').symm,tv⟩⟩
  ·have S:i=8:=by omega
   subst S;have M:64*m<=c:=by omega
   refine brd ss ?_;refine mB 6 (fun _=>.arr 5 1 ((lenJ s 8).map encB) c) rfl rfl rfl (fun _ _=>kl _ (lenJ s 8) c) (fun _ _=>jH 1 (lenJ s 8) c) ?_;intro b F1 W Z;have I:=Z 0 rfl;refine g8 hΘ func174 rfl dd _ _ rfl rfl rfl (ec hΘ _ _ _ ?_);refine brd dd ?_;refine C3 (F1:=F1) (Y.mono W) (ih:=1) (is:=7) (inn:=8) (ib:=6) (b:=b) (v:=init8) (c:=c) qZ V q oo M rfl rfl rfl rfl rfl rfl rfl rfl rfl I rfl rfl rfl rfl rfl rfl rfl rfl ?_;refine usePs (EG F1 (cC m (lenJ s 8) init8) J) ?_;refine⟨rfl,rfl,?_⟩;exact endFs (.ret (.va (.str (eW (cC m (lenJ s 8) init8))))) W (by rw[w])
end Go.Proofs.YtfnkamphhpldcaaGreatDoor
namespace Go.Proofs
open Go.Shelf Tryz
def Tryz.lays156_ren:Go.Shelf.Ren:=⟨fun | 156=>228 | 165=>257 | 166=>224 | 169=>104 | 240=>256 | 241=>273 | 276=>272 | 277=>287 | n=>n,fun | 31=>34 | 9=>9 | 3=>3 | 4=>4 | 0=>0 | 20=>20 | 72=>172 | 76=>281 | 70=>170 | 37=>81 | 75=>125 | 127=>238 | 164=>334 | 5=>5 | 80=>155 | n=>n,fun | n=>n⟩
theorem Tryz.lays156:Go.Proofs.Lays.n156 prog Tryz.lays156_ren:={
 mixed:=by kernel_rfl
 f156:=func228.trans (congrArg some (by kernel_rfl))
 f165:=func257.trans (congrArg some (by kernel_rfl))
 f166:=func224.trans (congrArg some (by kernel_rfl))
 f169:=func104.trans (congrArg some (by kernel_rfl))
 f240:=func256.trans (congrArg some (by kernel_rfl))
 f241:=func273.trans (congrArg some (by kernel_rfl))
 f276:=func272.trans (congrArg some (by kernel_rfl))
 f277:=func287.trans (congrArg some (by kernel_rfl))
 t0:=underlying0
 a0:=Tryz.isAgg0
 z0:=Tryz.sizeOf0
 v0:=Tryz.zeroValue0
 t3:=underlying3
 a3:=Tryz.isAgg3
 z3:=Tryz.sizeOf3
 v3:=Tryz.zeroValue3
 t4:=underlying4
 a4:=Tryz.isAgg4
 z4:=Tryz.sizeOf4
 v4:=Tryz.zeroValue4
 t9:=underlying9
 a9:=Tryz.isAgg9
 z9:=Tryz.sizeOf9
 v9:=Tryz.zeroValue9
 t20:=underlying20
 a20:=Tryz.isAgg20
 z20:=Tryz.sizeOf20
 v20:=Tryz.zeroValue20
 t31:=underlying34
 a31:=Tryz.isAgg34
 z31:=Tryz.sizeOf34
 v31:=Tryz.zeroValue34
 t37:=underlying81
 a37:=Tryz.isAgg81
 z37:=Tryz.sizeOf81
 v37:=Tryz.zeroValue81
 t70:=underlying170
 a70:=Tryz.isAgg170
 z70:=Tryz.sizeOf170
 v70:=Tryz.zeroValue170
 t72:=underlying172
 a72:=Tryz.isAgg172
 z72:=Tryz.sizeOf172
 v72:=Tryz.zeroValue172
 t75:=underlying125
 a75:=Tryz.isAgg125
 z75:=Tryz.sizeOf125
 v75:=Tryz.zeroValue125
 t76:=underlying281
 a76:=Tryz.isAgg281
 z76:=Tryz.sizeOf281
 v76:=Tryz.zeroValue281
 t127:=underlying238
 a127:=Tryz.isAgg238
 z127:=Tryz.sizeOf238
 v127:=Tryz.zeroValue238
 t164:=underlying334
 a164:=Tryz.isAgg334
 z164:=Tryz.sizeOf334
 v164:=Tryz.zeroValue334 }
theorem Tryz.Builder_Extra_156:Builder.Extra prog Tryz.lays156_ren:={
 sizeBuilder:=by kernel_rfl
 liesBuilder:=by kernel_rfl
 t5:=underlying5
 a5:=Tryz.isAgg5
 z5:=Tryz.sizeOf5
 v5:=Tryz.zeroValue5
 infoByte:=by kernel_rfl
 cellsByte:=by kernel_rfl
 sizeByte:=by kernel_rfl
 neB5:=by decide }
open Go.RowKit in
open Go.RowKit in
theorem Tryz.strings_Join(g o c:Nat)(xs:List ByteArray)(b:ByteArray)(w:World)(a:∀(j:Nat) x,xs[j]? =some x->w.cell? ⟨g,o+j,none⟩=some (.string x))(h:g < w.heap.size)(i:xs.length<=140737488355328)(d:xs.length<=c)(f:(Lib.join (xs.map (·.data.toList)) b.data.toList).length<=140737488355328):
  Calls prog 228 #[.slice (some ⟨g,o,none⟩) xs.length c,.string b] w fun e k=>e=.returned (.string ⟨(Lib.join (xs.map (·.data.toList)) b.data.toList).toArray⟩)/\Below w.heap.size w k:=Any.strings_Join Tryz.lays156 Tryz.Builder_Extra_156 g o c xs b w a h i d f
end Go.Proofs
