import Derived.Test.YtfnkamphhpldcaaGreatDoorK20
import Derived.Test.YtfnkamphhpldcaaGreatDoorK11
import Derived.Laws.BitsAllLaws
import Derived.Test.YtfnkamphhpldcaaGreatDoorProg
import Derived.Test.YtfnkamphhpldcaaGreatDoorK19
import Derived.Test.YtfnkamphhpldcaaGreatDoorK17
import Derived.Shelf.GgClosure.StringsRunes
import Derived.Shelf.Strings.SlTrimAscii
import Derived.Laws.RangeAny
import Derived.Laws.RangeString
import Derived.Defers
import Derived.Recover
set_option maxHeartbeats 64000000
namespace Go.Proofs.YtfnkamphhpldcaaGreatDoor
open Go Sx Tryz
set_option maxRecDepth 100000
def NFun:Prop:=∀(F:Fz) (n:Nat),n<=70000->Fo prog F 250 [.va (.str [48]),.va (.int .i64 n)] (fun o a=>F=a/\o=.ret (.va (.str (List.replicate n 48))))
theorem yf6{k w:Nat}(e:0 < w/\w<=64)(i:k < 4096):
  IntKind.i64.wrap (IntKind.i64.wrap (IntKind.i64.wrap ((IntKind.i64.wrap ((k:Int).tdiv w)).tdiv 2)*IntKind.i64.wrap ((IntKind.i64.wrap ((w:Int)+1)).tdiv 2))+IntKind.i64.wrap (((k:Int).tmod w).tdiv 2))=((k / w / 2*((w+1) / 2)+k % w / 2:Nat):Int):=by
 have h1:(k:Int).tdiv w=((k / w:Nat):Int):=by rw[jo oo];rfl
 have a:(k:Int).tmod w=((k % w:Nat):Int):=by rw[y4 oo];rfl
 have f:k / w<=k:=qcb _ _;have g:k % w < w:=qa1 _ e.1;rw[h1,a];generalize k / w=q at*;generalize k % w=r at*;have b:(q:Int).tdiv 2=((q / 2:Nat):Int):=by rw[jo oo];rfl
 have c:(r:Int).tdiv 2=((r / 2:Nat):Int):=by rw[jo oo];rfl
 have d:((w:Int)+1).tdiv 2=(((w+1) / 2:Nat):Int):=by rw[jo oo];rfl
 have h:q / 2*((w+1) / 2)<=2048*32:=qah oo oo
 rw[aF (n:=(q:Int)) oo oo,b,c,aF (n:=(w:Int)+1) oo oo,d,aF (n:=((q / 2:Nat):Int)) oo oo,aF (n:=(((w+1) / 2:Nat):Int)) oo oo,
  <-qa5]
 generalize q / 2*((w+1) / 2)=m at*;rw[aF (n:=(m:Int)) oo oo,aF (n:=((r / 2:Nat):Int)) oo oo,<-qcv,aF oo oo]
theorem C6(hN:NFun)(F:Fz)(w h:Nat)(e:UInt8)(d:List UInt8)(a:Int)(c:Nat)(caps:Nat->Nat)(hw:0 < w/\w<=64)(hh:0 < h/\h<=64)(hl:(e::d).length=w*h):
  Ct prog 194 [.va (.ptr ⟨1,0,0,0,0⟩),.va (.int .i64 a)] F (valM ⟨false,[],w,h,e::d⟩ c caps) 4
   (stepV F ⟨false,[],((w:Int)+1) / 2,((h:Int)+1) / 2,halB w 0 (e::d) (List.replicate ((w+1) / 2*((h+1) / 2)) 48)⟩):=by
 have A:=iO (w:=(w:Int)) ⟨by omega,by omega⟩;have B:=iO (w:=(h:Int)) ⟨by omega,by omega⟩;have ac:((w:Int)+1) / 2=(((w+1) / 2:Nat):Int):=by omega
 have ad:((h:Int)+1) / 2=(((h+1) / 2:Nat):Int):=by omega
 have G:(((w+1) / 2*((h+1) / 2):Nat):Int)=IntKind.i64.wrap (IntKind.i64.wrap ((IntKind.i64.wrap ((w:Int)+1)).tdiv 2)*IntKind.i64.wrap ((IntKind.i64.wrap ((h:Int)+1)).tdiv 2)):=by
  have L:(w+1) / 2*((h+1) / 2)<=32*32:=qah oo oo;rw[A.1,B.1,ac,ad,<-qa5,aF oo oo]
 have hv:∀w' W S,w'=((w:Int)+1) / 2->W=((h:Int)+1) / 2->S=halB w 0 (e::d) (List.replicate ((w+1) / 2*((h+1) / 2)) 48)->subE (some (valE ⟨false,[],w',W,S⟩ 2 c)) ((valE ⟨false,[],((w:Int)+1) / 2,((h:Int)+1) / 2,halB w 0 (e::d) (List.replicate ((w+1) / 2*((h+1) / 2)) 48)⟩ 2 c).ren (sig [])):=by
  intro w' W S A B e3;subst A;subst B;subst e3;rfl
 have g:∀(o:List UInt8) (μ:Mu) (k:Nat),subE (some (.one (.arr 5 1 (o.map fun b=>[SA.int .u8 b.toNat]) k))) ((Ent.one (.arr 5 1 (o.map encB) k)).ren μ):=fun o μ k=>(cI (l:=o) aA rfl 5 1 μ k).symm
 refine ctS func194 ?_;refine dwS (lk [0,1,2,3,4,5,6,7,8,9,10,11,12,13] .done) [1] ?_;conv=>whnf
 repeat' ((conv=>whnf);first
  |refine⟨rfl,?_⟩
  |refine⟨Fz.r _,rfl,?_⟩
  |refine⟨Fz.r _,rfl,rfl,?_⟩
  |refine⟨⟨by simp,by simp⟩,?_⟩
  |fail)
 refine⟨oo,?_⟩;conv=>whnf
 repeat' ((conv=>whnf);first
  |refine⟨rfl,?_⟩
  |refine⟨Fz.r _,rfl,?_⟩
  |refine⟨Fz.r _,rfl,rfl,?_⟩
  |refine⟨⟨by simp,by simp⟩,?_⟩
  |fail)
 refine⟨oo,?_⟩;conv=>whnf
 refine bre ss ?_;conv=>whnf
 have L:(w+1) / 2*((h+1) / 2)<=32*32:=qah oo oo;refine useFo (hN F ((w+1) / 2*((h+1) / 2)) oo) rfl ⟨rfl,congrArg (SA.int .i64) G,tv⟩ rfl ?_;rintro _ _ l1 ⟨rfl,rfl⟩;conv=>whnf
 intro y ag;conv=>whnf
 intro c2 ah;conv=>whnf
 have R:(List.replicate ((w+1) / 2*((h+1) / 2)) (48:UInt8)).length=(w+1) / 2*((h+1) / 2):=qaz
 refine aI hΘ (X:={ x:Nat×List UInt8 // x.1<=d.length+1/\x.2.length=(w+1) / 2*((h+1) / 2)/\halB w x.1 ((e::d).drop x.1) x.2=halB w 0 (e::d) (List.replicate ((w+1) / 2*((h+1) / 2)) 48) }) (fun x=>[(37,.va (.int .i64 x.1.1))]) (7::8::jr 38 26 [])
  (fun x=>[(0,.frz F),(4,.one (.arr 5 1 (x.1.2.map encB) y))]) 6 (fun x=>d.length+1 - x.1.1) ⟨(0,_),by simp,R,rfl⟩
  (fun O Q=>leI [] O Q rfl ⟨tv,bX aA 5 1 6 y _,tv⟩ ⟨rfl,tv⟩ ⟨Fz.r F,g _ _ _,tv⟩) ?_
 rintro⟨⟨k,o⟩,hk,f,m⟩ O Q;replace hk:k<=d.length+1:=hk;replace f:o.length=(w+1) / 2*((h+1) / 2):=f;replace m:halB w k ((e::d).drop k) o=halB w 0 (e::d) (List.replicate ((w+1) / 2*((h+1) / 2)) 48):=m;refine br (fun D=>?_) (fun D=>?_)
 ·have U:k < d.length+1:=by
   have E:(k:Int) < ((d.length+1:Nat):Int):=od D;omega
  clear D;have V:k < (e::d).length:=U
  have q:((e::d).map fun b=>[SA.int .u8 b.toNat])[0+(k:Int).toNat]? =some [SA.int .u8 ((e::d)[k]).toNat]:=by
   rw[qz,qg,qu,qc V];rfl
  refine⟨rfl,⟨by simp,by show(k:Int) < ((d.length+1:Nat):Int);omega⟩,_,q,?_⟩;have ai:w*h<=64*64:=qah hw.2 hh.2;have ab:k < w*h:=by rw[<-hl];exact V
  have i:=m;rw[ji V,halB]at i;refine br (fun T=>?_) (fun T=>?_)
  ·have p:(e::d)[k]=49:=by
    have E:(((e::d)[k]).toNat:Int)=49:=od T;exact qbq.1 (by show((e::d)[k]).toNat=49;omega)
   have M:=i;rw[if_pos p]at M;refine dwS (lk [0,1,2,3,4,5,6,7,8,9,10,11,12,13,14,15,16,17,18] (.last 19 .done)) [1] ?_;conv=>whnf
   have af:(w:Int)≠0:=by omega
   have Y:(2:Int)≠0:=by decide
   have j:=yf6 (k:=k) hw oo;have J:=Cb ab;have Z:0<=IntKind.i64.wrap (IntKind.i64.wrap (IntKind.i64.wrap ((IntKind.i64.wrap ((k:Int).tdiv w)).tdiv 2)*IntKind.i64.wrap ((IntKind.i64.wrap ((w:Int)+1)).tdiv 2))+IntKind.i64.wrap (((k:Int).tmod w).tdiv 2)):=by rw[j];omega
   have aa:IntKind.i64.wrap (IntKind.i64.wrap (IntKind.i64.wrap ((IntKind.i64.wrap ((k:Int).tdiv w)).tdiv 2)*IntKind.i64.wrap ((IntKind.i64.wrap ((w:Int)+1)).tdiv 2))+IntKind.i64.wrap (((k:Int).tmod w).tdiv 2)) < ((List.replicate ((w+1) / 2*((h+1) / 2)) (48:UInt8)).length:Int):=by rw[j,R];omega
   have I:(o.map encB)[0+(IntKind.i64.wrap (IntKind.i64.wrap (IntKind.i64.wrap ((IntKind.i64.wrap ((k:Int).tdiv w)).tdiv 2)*IntKind.i64.wrap ((IntKind.i64.wrap ((w:Int)+1)).tdiv 2))+IntKind.i64.wrap (((k:Int).tmod w).tdiv 2))).toNat]? =some (encB (o[k / w / 2*((w+1) / 2)+k % w / 2]'(by rw[f];exact J))):=by
    rw[j,qg,qz,qu,qc (by rw[f];exact J)];rfl
   have s:subE (some (.one (.arr 5 1 ((o.map encB).set (0+(IntKind.i64.wrap (IntKind.i64.wrap (IntKind.i64.wrap ((IntKind.i64.wrap ((k:Int).tdiv w)).tdiv 2)*IntKind.i64.wrap ((IntKind.i64.wrap ((w:Int)+1)).tdiv 2))+IntKind.i64.wrap (((k:Int).tmod w).tdiv 2))).toNat) [.int .u8 49]) y))) ((Ent.one (.arr 5 1 ((o.set (k / w / 2*((w+1) / 2)+k % w / 2) 49).map encB) y)).ren (sig [])):=by
    have ae:(o.map encB).set (k / w / 2*((w+1) / 2)+k % w / 2) [SA.int .u8 49]=(o.set (k / w / 2*((w+1) / 2)+k % w / 2) 49).map encB:=by rw[qb4];rfl
    rw[j,qg,qz,ae];exact g _ _ _
   repeat' ((conv=>whnf);first
    |refine⟨af,?_⟩
    |refine⟨Y,?_⟩
    |refine⟨⟨Z,aa⟩,?_⟩
    |refine⟨_,I,?_⟩
    |refine⟨rfl,?_⟩
    |refine⟨Fz.r _,rfl,?_⟩
    |refine⟨Fz.r _,rfl,rfl,?_⟩
    |refine⟨⟨by simp,by simp⟩,?_⟩
    |fail)
   exact⟨⟨(k+1,o.set (k / w / 2*((w+1) / 2)+k % w / 2) 49),by show k+1<=d.length+1;omega,by rw[qbp];exact f,M⟩,by show d.length+1 - (k+1) < d.length+1 - k;omega,
    leR [] O Q rfl ⟨tv,bX aA 5 1 6 y _,tv⟩ ⟨cnt oo,tv⟩ ⟨Fz.r _,s,tv⟩⟩
  ·have p:¬(e::d)[k]=49:=fun h=>by
    have E:¬(((e::d)[k]).toNat:Int)=49:=oe T;rw[h]at E;exact E rfl
   rw[if_neg p]at i
   exact⟨⟨(k+1,o),by show k+1<=d.length+1;omega,f,i⟩,by show d.length+1 - (k+1) < d.length+1 - k;omega,
    leR [] O Q rfl ⟨tv,bX aA 5 1 6 y _,tv⟩ ⟨cnt oo,tv⟩ ⟨Fz.r _,g _ _ _,tv⟩⟩
 ·have U:k=d.length+1:=by
   have E:¬(k:Int) < ((d.length+1:Nat):Int):=oe D;omega
  clear D
  have n:o=halB w 0 (e::d) (List.replicate ((w+1) / 2*((h+1) / 2)) 48):=by
   rw[<-m,qbm (by rw[U];simp),halB]
  have K:0+(List.replicate ((w+1) / 2*((h+1) / 2)) (48:UInt8)).length<=(o.map encB).length:=by rw[R,qa,f];omega
  have u:List.take (List.replicate ((w+1) / 2*((h+1) / 2)) (48:UInt8)).length (List.drop 0 (o.map encB))=o.map encB:=by rw[R,y5];exact qk (by rw[qa,f];omega)
  refine⟨K,_,u,o,rfl,?_⟩;refine clean [] (.ret (.tup [])) F (valM ⟨false,[],((w:Int)+1) / 2,((h:Int)+1) / 2,halB w 0 (e::d) (List.replicate ((w+1) / 2*((h+1) / 2)) 48)⟩ c caps) 4 ⟨Fz.r F,rfl,rfl,rfl,c,caps,rfl⟩ (aO _) rfl rfl (by simp[Out.below,SV.below]) (iY _ _ _) ⟨Fz.r F,?_,tv⟩
  first
  |exact hv _ _ _ A.1 B.1 n
  |exact hv _ _ _ A.2 B.2 n
end Go.Proofs.YtfnkamphhpldcaaGreatDoor
namespace Go.Proofs.YtfnkamphhpldcaaGreatDoor
open Go Go.RowKit Go.Shelf Sx Tryz
attribute [local go_sem] Oper.semAt_some
abbrev G7:={ x:Nat×Bool // x.1 < 128 }
def grpL(z:Nat):List (Nat×Bool):=if z < 128 then [(z,true)]else(z % 128,false)::grpL (z / 128)
termination_by z
decreasing_by omega
noncomputable def zAt(a:Nat)(w:World):Nat:=match w.cell? ⟨a,0,none⟩with
 |some (.int _ z)=>z.toNat
 |_=>0
theorem ycb{a:Nat}{w:World}{z:Nat}(h:Boxed w a 219 (.int .u64 z)):zAt a w=z:=by
 unfold zAt;rw[h.cell];rfl
set_option maxRecDepth 100000 in
theorem it147(F:Fence)(n:Nat)(h147:F.fn 212)(hro:F.round=none)(hn:1<=n)(l zb:Nat)(z:Nat)(hz:z < 18446744073709551616)(J:List G7->World->Prop)
  (hJz:∀pre A v,J pre A->J pre (A.setCell ⟨zb,0,none⟩ v))
  (hY:∀pre (x:G7) W1,J pre W1->pre.length < 10->YieldAt F (n - 1) prog l #[.int .u8 x.1.1,.bool x.1.2] W1 fun e W'=>e=.returned (.bool true)/\J (pre++[x]) W'/\W'.heap[zb]? =W1.heap[zb]?)
  (W:World)(hc:Boxed W zb 219 (.int .u64 z))(h0:J [] W):
  CallsIn F n prog 212 #[.func (.yield l) #[] #[],.pointer (some ⟨zb,0,none⟩)] W fun e W'=>(∃v,e=.returned v)/\∃xs,(xs.map (·.1)=grpL z)/\J xs W':=by
 refine callsIn_of_wp func212 rfl h147 ?_ hro;simp only[Tryz.ntmps212,List.size_toArray,List.length_cons,List.length_nil,Nat.reduceAdd,Nat.reduceSub,Array.replicate_succ,Array.replicate_zero,List.push_toArray,List.append_toArray,List.nil_append,List.cons_append]
 gi_wp2
 gi_loopw [] (fun wr=>∃(pre:List G7) (z':Nat),J pre wr/\Boxed wr zb 219 (.int .u64 z')/\z' < 18446744073709551616/\grpL z=pre.map (·.1)++grpL z'/\z'*128^pre.length<=z/\(pre=[]\/1<=z')) (fun wr=>zAt zb wr)
 case atStart=>
  exact⟨[],z,h0,hc,hz,by simp,by simp,.inl rfl⟩
 case round=>
  obtain⟨pre,z',hJ,hb,hz',hg,hpow,hpos⟩:=hrel;have hcell:=hb.cell
  have hlen:pre.length < 10:=by
   rcases hpos with rfl | hpos
   ·simp
   ·refine Nat.lt_of_not_le fun hge=>?_
    have h1:128^10<=128^pre.length:=Nat.pow_le_pow_right oo hge;have h2:1*128^pre.length<=z'*128^pre.length:=Nat.mul_le_mul_right _ hpos;omega
  obtain⟨fn,tmps,assign,body,hy,hR⟩:=hY pre ⟨(z' % 128,decide (z' < 128)),Nat.mod_lt _ oo⟩ wr hJ hlen
  have hbits:bits BinOp.and IntKind.u64 (↑z') 127 % 256=((z' % 128:Nat):Int):=by
   rw[show(127:Int)=((127:Nat):Int)from rfl,u64_and_nat z' 127 hz' oo,show(127:Nat)=2^7 - 1 from rfl,Nat.and_two_pow_sub_one_eq_mod];omega
  have hdec:decide ((z':Int) < 128)=decide (z' < 128):=decide_eq_decide.2 oo;have hnn:((z' % 128:Nat):Int)=(z':Int) % 128:=by omega
  dsimp only at hy;rw[hnn]at hy
  gi_wp2
  refine hR.mono ?_;rintro e W3 ⟨rfl,hJ3,hz3⟩;have hb3:Boxed W3 zb 219 (.int .u64 z'):=hz3.trans hb;have hcell3:=hb3.cell;have hfr3:=hb3.frozen;by_cases hlt:z' < 128
  ·have hg1:grpL z'=[(z',true)]:=by rw[grpL,if_pos hlt]
   have e1:z' % 128=z':=Nat.mod_eq_of_lt hlt
   gi_wp2
   refine bodyPost_ret (results_none rfl _ _ _) rfl ?_;refine⟨⟨_,rfl⟩,_,?_,hJ3⟩;rw[hg,hg1,List.map_append];simp[e1,hlt]
  ·have hg1:grpL z'=(z' % 128,false)::grpL (z' / 128):=by rw[grpL,if_neg hlt]
   have hdiv:((z' / 128:Nat):Int)=(z':Int) / 128:=by omega
   have hb4:=hb3.set (.int .u64 ((z' / 128:Nat):Int));rw[hdiv]at hb4
   have hpw:z' / 128*128^(pre.length+1)<=z:=by
    rw[Nat.pow_succ,Nat.mul_comm (128^pre.length),<-Nat.mul_assoc];exact Nat.le_trans (Nat.mul_le_mul_right _ (Nat.div_mul_le_self z' 128)) hpow
   gi_wp2
   refine⟨⟨_,z' / 128,hJz _ _ _ hJ3,by rw[hdiv];exact hb4,by omega,?_,by simpa using hpw,.inr oo⟩,?_⟩
   ·rw[hg,hg1,List.map_append];simp[hlt]
   ·rw[ycb (z:=z' / 128) (by rw[hdiv];exact hb4),ycb hb];omega
theorem zP(F:Fence)(n:Nat)(h:F.fn 139)(hro:F.round=none)(z:Int)(w:World):
  CallsIn F n prog 139 #[.int .u64 z] w fun e w'=>e=.returned (.func (.func 212) #[] #[.pointer (some ⟨w.heap.size,0,none⟩)])/\w'=w.alloc (.cells #[.int .u64 z] 219):=by
 refine callsIn_of_wp func139 rfl h ?_ hro;simp only[Tryz.ntmps139,List.size_toArray,List.length_cons,List.length_nil,Nat.reduceAdd,Nat.reduceSub,Array.replicate_succ,Array.replicate_zero,List.push_toArray,List.append_toArray,List.nil_append,List.cons_append]
 gi_wp2
 go_ret
 exact⟨rfl,rfl⟩
theorem yg0(F:Fence)(n:Nat)(a:F.fn 212)(d:F.round=none)(i:1<=n)(b z:Nat)(j:z < 18446744073709551616)(w:World)(h:Boxed w b 219 (.int .u64 z)):
  SeqZ F n prog 212 #[.pointer (some ⟨b,0,none⟩)] (fun x:G7=>#[.int .u8 x.1.1,.bool x.1.2]) b (fun k=>k.map (·.1)=grpL z) 10 w:=
 fun l J W f c g e=>it147 F n a d i l b z j J c g W (f.trans h) e
end Go.Proofs.YtfnkamphhpldcaaGreatDoor
namespace Go.Proofs.YtfnkamphhpldcaaGreatDoor
open Go Go.RowKit Go.Shelf Sx Tryz
attribute [local go_sem] Oper.semAt_some
theorem info5:(prog.info? 5).map (fun i=>(i.zero,i.size,i.bytes))=some (some (.int .u8 0),1,1):=by kernel_rfl
def byteOf(x:Nat×Bool):Nat:=if x.2 then x.1 else x.1+128
theorem zg(x:G7):byteOf x.1 < 256:=by
 have:=x.2;unfold byteOf;split<;>omega
theorem rz(z:Nat):(grpL z).map (fun x=>UInt8.ofNat (byteOf x))=putZ z:=by
 rw[grpL,putZ];split
 ·rfl
 ·rw[q9,rz (z / 128)];rfl
termination_by z
decreasing_by omega
theorem yhc(n:Int)(h:-4611686018427387903<=n/\n<=4611686018427387903):bits BinOp.xor IntKind.u64 (IntKind.u64.wrap (IntKind.u64.wrap n*2)) (IntKind.u64.wrap (n / 9223372036854775808))=(cE n:Int):=by
 by_cases g:n < 0
 ·have a:IntKind.u64.wrap n=n+18446744073709551616:=by rw[IntKind.wrap_u64];omega
  have b:IntKind.u64.wrap ((n+18446744073709551616)*2)=((n*2+18446744073709551616).toNat:Int):=by rw[IntKind.wrap_u64];omega
  have c:n / 9223372036854775808= -1:=by omega
  have d:IntKind.u64.wrap (-1)=((18446744073709551615:Nat):Int):=by decide
  rw[a,b,c,d,u64_xor_nat _ _ oo oo,cE,if_pos g]
  have f:∀x:Nat,x < 18446744073709551616->x^^^18446744073709551615=18446744073709551615 - x:=by
   intro x i
   have e:(BitVec.ofNat 64 x^^^BitVec.allOnes 64).toNat=18446744073709551615 - x:=by
    rw[BitVec.xor_allOnes,BitVec.toNat_not,BitVec.toNat_ofNat,ju oo]
   rw[BitVec.toNat_xor,BitVec.toNat_ofNat,ju oo]at e;exact e
  rw[f _ oo];omega
 ·have a:IntKind.u64.wrap n=n:=by rw[IntKind.wrap_u64];omega
  have b:IntKind.u64.wrap (n*2)=((n*2).toNat:Int):=by rw[IntKind.wrap_u64];omega
  have c:n / 9223372036854775808=0:=by omega
  have d:IntKind.u64.wrap 0=((0:Nat):Int):=by decide
  rw[a,b,c,d,u64_xor_nat _ _ oo oo,Nat.xor_zero,cE,if_neg g]
theorem D9(B:Nat)(t:TypeId):Own (fun(_:List G7) W=>∃u,Boxed W B t u):=fun s W g f ⟨u,h⟩ c d=>⟨u,h.kept c (fun e=>by
 obtain⟨o,a,b⟩:=d _ e.symm;rw[show W.heap[B]? =_ from h]at a;cases a;cases b)⟩
set_option maxRecDepth 100000 in
theorem AD(F:Fence)(k:Nat)(h80:F.fn 78)(h112:F.fn 139)(h147:F.fn 212)(hro:F.round=none)(hk:3<=k)(n:Int)(hn:-4611686018427387903<=n/\n<=4611686018427387903)(w:World):
  CallsIn F k prog 78 #[.int .i64 n] w fun e w'=>e=.returned (.tuple #[.string ⟨(putI n).toArray⟩,.int .i64 0])/\Below w.heap.size w w':=by
 have h1:1<=k:=by omega
 have hz:=oh n hn;have hx:=yhc n hn;obtain⟨i0,hi,hz0,hz1,hz2⟩:=info_parts info5;have hn1:¬n < -4611686018427387903:=by omega
 have hn2:¬4611686018427387903 < n:=by omega
 refine callsIn_of_wp_marks func78 rfl h80 ?_ hro;simp only[Tryz.ntmps78,y9,qf,qv,Nat.reduceAdd,Nat.reduceSub,qaf,qag,qat,qak,qw,jz]
 gi_wp2_with (gi_at_call 139;refine(zP F (k - 1) h112 hro _ _).mono ?_;rintro e w' ⟨rfl,rfl⟩)
 have bO:=Boxed.new w 81 (.slice none 0 0);have bN:=Boxed.new (w.alloc (.cells #[.slice none 0 0] 81)) 219 (.int .u64 (cE n));rw[World.size_alloc]at bN;have hB0:Below w.heap.size w ((w.alloc (.cells #[.slice none 0 0] 81)).alloc (.cells #[.int .u64 (cE n)] 219)):=((Below.refl _ w).alloc (qj _) _).alloc ss _
 refine CM hro h1 (gf:=212) (lb:=#[.pointer (some ⟨w.heap.size+1,0,none⟩)]) rfl h147 (enters_of func212 (by kernel_rfl) rfl)
  (yg0 F (k - 1) h147 hro oo (w.heap.size+1) (cE n) oo _ bN) ss (fun _=>rfl)
  (fun pre W=>((∃v,Boxed W w.heap.size 81 v/\W.ownsRow w.heap.size 5 1 v pre.length (pre.map fun x=>.int .u8 (byteOf x.1))/\True)/\(∃u,Boxed W (w.heap.size+1) 219 u))/\Below w.heap.size w W)
  (OwnFrom.and (OwnFrom.and (Own.from (holdsRow_own w.heap.size w.heap.size 81 5 1 (fun pre=>pre.length) (fun pre:List G7=>pre.map fun x=>.int .u8 (byteOf x.1)) (fun _ _=>True)) _) (Own.from (D9 _ _) _)) (ownFrom_below (qj _) (by simp;omega)))
  ?hIz ⟨⟨⟨_,bO.alloc _,World.ownsRow_nil _ _ _ _,tv⟩,⟨_,bN⟩⟩,hB0⟩
  (fun x=>{ tmps:=#[.int .i64 n,undef,.string ⟨#[]⟩,.int .i64 0,.pointer (some ⟨w.heap.size,0,none⟩),.int .u8 x.1.1,.bool x.1.2,.int .i64 n,.bool false,.bool false,.int .i64 n,.bool false,.bool false,.int .i64 n,.int .u64 (IntKind.u64.wrap n),.int .u64 (IntKind.u64.wrap (IntKind.u64.wrap n*2)),.int .i64 n,.int .i64 (n / 9223372036854775808),.int .u64 (IntKind.u64.wrap (n / 9223372036854775808)),.int .u64 (cE n),.func (.func 212) #[] #[.pointer (some ⟨w.heap.size+1,0,none⟩)],.int .u8 x.1.1,.bool x.1.2,undef,undef,undef,undef,undef,undef,undef,undef,undef,undef],defers:=[] }) ?assign ?body ?done
 case hIz=>
  rintro pre A v ⟨⟨⟨u,hv,hrow,-⟩,⟨q,hq⟩⟩,hB⟩;exact⟨⟨⟨u,hv.kept (grownBy_setCell' A (w.heap.size+1) v) ss,hrow.kept (grownBy_setCell' A (w.heap.size+1) v) (.inr (hq.not_row dd hrow).symm),tv⟩,⟨v,hq.set v⟩⟩,hB.setCell (p:=⟨w.heap.size+1,0,none⟩) ss v⟩
 case assign=>
  intro l x W K hK
  gi_wp2
  exact hK
 case body=>
  rintro l pre x W ⟨⟨⟨v,hv,hrow,-⟩,⟨q,hq⟩⟩,hB⟩ hlt;have hc:=hv.cell;obtain⟨⟨g,b⟩,hg⟩:=x;have hg':g < 128:=hg
  have hor:bits .or .u8 (g:Int) 128=((g+128:Nat):Int):=by
   rw[show(128:Int)=((128:Nat):Int)from rfl,u8_or_nat g 128 oo oo,Nat.or_comm];have:=qbw (i:=7) (b:=g) oo 1;simp only[Nat.reducePow,qda]at this;rw[<-this,qb5]
  cases b with
  |true=>
   gi_wp2_with (gi_at_builtin;refine wpListIn_append_own _ rfl _ _ 81 rfl w.heap.size 5 i0 (.int .u8 0) 1 1 underlying81 hi hz0 hz1 hz2 rfl dd _ _ _ rfl (hrow.alloc _) ⟨W.heap.size,0,none⟩ 1 1 [.int .u8 g] rfl rfl (cell_one_new _ _ _) (by simp[Value.oneCell']) (by simp[maxLen];omega) oo (by have:=hB.size;simp;omega) ?_;intro v' w1 hown' hgrow _;obtain⟨g',cap',rfl⟩:=ownsRow_succ hown';obtain⟨hv1,hv2,hr2,hk2,hb2⟩:=hv.appended dd hrow hB.size (qj _) hown' hgrow;have hc1:=hv1.cell;have hf1:=hv1.frozen)
   have e1:=(Below.heap_setCell w1 ⟨w.heap.size,0,none⟩ (.slice (some ⟨g',0,none⟩) (pre.length+1) cap') (w.heap.size+1) ss).trans ((hq.alloc _).kept hgrow (hq.not_row dd hrow));exact⟨hk2.from _,e1.trans hq.symm,⟨⟨_,hv2,by simpa[byteOf]using hr2,tv⟩,⟨q,e1⟩⟩,hB.trans hb2⟩
  |false=>
   gi_wp2_with (gi_at_builtin;refine wpListIn_append_own _ rfl _ _ 81 rfl w.heap.size 5 i0 (.int .u8 0) 1 1 underlying81 hi hz0 hz1 hz2 rfl dd _ _ _ rfl (hrow.alloc _) ⟨W.heap.size,0,none⟩ 1 1 [.int .u8 ((g+128:Nat):Int)] rfl rfl (cell_one_new _ _ _) (by simp[Value.oneCell']) (by simp[maxLen];omega) oo (by have:=hB.size;simp;omega) ?_;intro v' w1 hown' hgrow _;obtain⟨g',cap',rfl⟩:=ownsRow_succ hown';obtain⟨hv1,hv2,hr2,hk2,hb2⟩:=hv.appended dd hrow hB.size (qj _) hown' hgrow;have hc1:=hv1.cell;have hf1:=hv1.frozen)
   have e1:=(Below.heap_setCell w1 ⟨w.heap.size,0,none⟩ (.slice (some ⟨g',0,none⟩) (pre.length+1) cap') (w.heap.size+1) ss).trans ((hq.alloc _).kept hgrow (hq.not_row dd hrow));exact⟨hk2.from _,e1.trans hq.symm,⟨⟨_,hv2,by simpa[byteOf]using hr2,tv⟩,⟨q,e1⟩⟩,hB.trans hb2⟩
 case done=>
  rintro D ys W hD hS ⟨⟨⟨v,hv,hrow,-⟩,⟨q,hq⟩⟩,hB⟩ hK;have hc:=hv.cell
  have hgl:ys.map (fun x=>UInt8.ofNat (byteOf x.1))=putI n:=by
   rw[putI,<-rz,<-hS,q8];rfl
  have hlen:ys.length=(grpL (cE n)).length:=by rw[<-hS,qa]
  obtain⟨m,hm⟩:∃m,ys.length=m+1:=by
   rw[hlen,grpL];split<;>exact⟨_,rfl⟩
  rw[hm]at hrow;obtain⟨g,cap,rfl⟩:=ownsRow_succ hrow
  have hcv:=run_convert_bytes_back (P:=prog) W 81 9 5 ⟨g,0,none⟩ cap (putI n) underlying81 underlying5 underlying9 (fun j hj=>by
   refine hrow.cells rfl j _ ?_;have hgj:=congrArg (fun l=>l[j]?) hgl;simp only[qu]at hgj;have hj':j < ys.length:=by have:=congrArg List.length hgl;rw[qa]at this;omega
   have hb:=zg ys[j];rw[qc hj',qc hj,qdv,Option.some.injEq]at hgj;rw[qu,qc hj',qdv,<-hgj,qap,ju oo])
  have hpl:(putI n).length=m+1:=by rw[<-hgl,qa,hm]
  rw[hpl]at hcv
  gi_wp2
  refine⟨by simp,.inl ⟨_,_,rfl,run_takeDeferred hK,?_⟩⟩;exact⟨_,results_tmp2 rfl _ _ _,rfl,hB.trans (belowK_b (w:=w) (qj _) W D _ _ (by simp at hD;omega) hK rfl rfl)⟩
set_option maxRecDepth 100000 in
theorem D5(n:Int)(hn:n < -4611686018427387903\/4611686018427387903 < n)(w:World):
  Calls prog 78 #[.int .i64 n] w fun e w'=>e=.returned (.tuple #[.string ⟨#[]⟩,.int .i64 10])/\Below w.heap.size w w':=by
 go_enter func78,Tryz.ntmps78
 by_cases g:n < -4611686018427387903
 ·go_wp2
  refine bodyPost_ret (results_tmp2 rfl _ _ _) rfl ⟨rfl,Below.refl _ _⟩
 ·have g2:4611686018427387903 < n:=hn.resolve_left g
  go_wp2
  refine bodyPost_ret (results_tmp2 rfl _ _ _) rfl ⟨rfl,Below.refl _ _⟩
theorem pfun:PFun:=by
 intro F n;have a:Sx.Enters prog 78:=Sx.enters_of func78 rfl dd
 have c:∀w:World,Calls prog 78 #[.int .i64 n] w fun e g=>e=.returned (.tuple #[.string ⟨(putIR n).1.toArray⟩,.int .i64 (putIR n).2])/\Below w.heap.size w g:=by
  intro w;by_cases b:n < -4611686018427387903\/4611686018427387903 < n
  ·rw[putIR,if_pos b];exact D5 n b w
  ·rw[putIR,if_neg b];exact callsIn_wide.1 (AD Fence.wide 3 trivial trivial trivial rfl oo n oo w)
 have f:=gh (F:=F) (args:=[.va (.int .i64 n)]) (out:=.ret (.tup [.va (.str (putIR n).1),.va (.int .i64 (putIR n).2)])) (vs:=[.int .i64 n]) a rfl (by
   rintro ρ d h
   match d,h with
   |[v],h=>rw[h.1];rfl) (.returned (.tuple #[.string ⟨(putIR n).1.toArray⟩,.int .i64 (putIR n).2])) (fun ρ=>⟨_,rfl,rfl⟩) (fun C ρ w _=>c w)
 exact f
end Go.Proofs.YtfnkamphhpldcaaGreatDoor
namespace Go.Proofs.YtfnkamphhpldcaaGreatDoor
open Go Go.RowKit Sx Tryz
theorem tN{C:Ctx}{ρ:Rho}{F:Fz}{w:World}{m:Int}(S:Sat C ρ [[(0,.frz F)]] 1 w)(h:F 4=some (.cells 3 [.int .i64 m])):w.cell? ⟨4,0,none⟩=some (.int .i64 m):=by
 obtain⟨o,b,a⟩:=S.blk 0 (.frz F) rfl 4 (by simp[Ent.has,h]);rw[S.id0]at b;simp only[Ent.at,h,yh,SB.ok]at a;obtain⟨c,_,rfl⟩:=a;simp[World.cell?,b,SA.den]
theorem cP{P:Program}{F:Fz}{f:FuncId}{args:List SV}{Q c:Out->Fz->Prop}(h:Fo P F f args Q)(k:∀o b,Q o b->c o b):Fo P F f args c:=by
 unfold Fo at*;refine ow h fun o h n i=>?_
 unfold Cln at*;intro C ρ w e j S l hb;obtain⟨a,d,g,n0,x,⟨m,p,q,s,u⟩,r⟩:=i C ρ w e j S l hb;exact⟨a,d,g,n0,x,⟨m,p,q,s,k _ _ u⟩,r⟩
theorem lfun:LFun Lib.toLowerA:=by
 intro F s e a
 refine cP (gh (F:=F) (args:=[.va (.str s)]) (out:=.ret (.va (.str (Lib.toLowerA s)))) (vs:=[.string ⟨s.toArray⟩]) (Sx.enters_of func247 rfl dd) rfl (by
   rintro ρ c h
   match c,h with
   |[v],h=>rw[h.1];rfl) (.returned (.string ⟨(Lib.toLowerA s).toArray⟩)) (fun ρ=>⟨_,rfl,rfl⟩) (fun C ρ w _=>by
   have h:=Tryz.strings_ToLower_ascii ⟨s.toArray⟩ w (by show s.toArray.size<=_;simp;omega) (fun j b hb=>a b (by
    have hb:s[j]? =some b:=by simpa using hb
    exact yx hb))
   simpa using h)) fun o d h=>⟨h.2.symm,h.1⟩
theorem pre2(a b:UInt8)(r:List UInt8):List.isPrefixOf [32,32] (a::b::r)=(a==32&&b==32):=by
 simp[List.isPrefixOf,Bool.beq_comm (a:=(32:UInt8))]
theorem lC:∀s:List UInt8,decide (0<=Lib.index s [32,32])=hasD s
 |[]=>by simp[Lib.index,hasD]
 |[a]=>by
  simp[Lib.index,hasD,List.isPrefixOf]
 |a::b::r=>by
  have ih:=lC (b::r);have e:=Lib.index_ge (b::r) [32,32];rw[Lib.index,pre2,hasD];by_cases c:(a==32&&b==32)=true
  ·rw[c];simp
  ·rw[qc7.2 c,qa8,<-ih];by_cases d:Lib.index (b::r) [32,32]= -1
   ·rw[d];simp
   ·have:¬(Lib.index (b::r) [32,32]== -1)=true:=by simpa using d
    simp only[jx,if_false,if_neg this];exact decide_eq_decide.2 oo
theorem CU(s:List UInt8):Lib.contains s [32,32]=hasD s:=lC s
theorem dfun:DFun:=by
 intro F s ⟨m,c⟩ f
 refine cP (gh (F:=F) (args:=[.va (.str s),.va (.str [32,32])]) (out:=.ret (.va (.bool (hasD s)))) (vs:=[.string ⟨s.toArray⟩,.string ⟨#[32,32]⟩]) (Sx.enters_of func248 rfl dd) rfl (by
   rintro ρ a h
   match a,h with
   |[v,u],h=>rw[h.1,h.2.1];rfl) (.returned (.bool (hasD s))) (fun ρ=>⟨_,rfl,rfl⟩) (fun C ρ w S=>by
   have h:=Tryz.strings_Contains ⟨s.toArray⟩ ⟨#[32,32]⟩ m w (by show s.toArray.size < _;simp;omega) (tN S c);refine h.mono fun e g ⟨h1,b⟩=>⟨?_,b▸Below.refl _ _⟩
   rw[h1,<-CU])) fun o d h=>⟨h.2.symm,h.1⟩
theorem si:∀{s:List UInt8},Lib.index s [32,32]= -1->repD s=s
 |[],_=>rfl
 |[a],_=>rfl
 |a::b::r,h=>by
  have d:=lC (a::b::r);rw[h,hasD]at d;have c:=d.symm;rw[show decide ((0:Int)<= -1)=false from rfl,qcs]at c;have f:=Lib.index_ge (b::r) [32,32]
  have e:Lib.index (b::r) [32,32]= -1:=by
   have:=lC (b::r);rw[c.2]at this;have:=oe this;omega
  rw[repD,if_neg (by rw[c.1];simp),si e]
theorem sg:∀{s:List UInt8} {i:Nat},Lib.index s [32,32]=i->repD s=s.take i++[32]++repD (s.drop (i+2))
 |[],i,h=>by simp[Lib.index]at h
 |[a],i,h=>by simp[Lib.index,List.isPrefixOf]at h
 |a::b::r,i,h=>by
  rw[Lib.index,pre2]at h;rw[repD];by_cases c:(a==32&&b==32)=true
  ·rw[c]at h;simp only[if_true]at h;have:i=0:=by omega
   subst this;rw[if_pos c];rfl
  ·rw[qc7.2 c]at h;simp only[jx,if_false]at h;have f:=Lib.index_ge (b::r) [32,32];by_cases e:Lib.index (b::r) [32,32]= -1
   ·rw[e]at h;simp at h
   ·have d:¬(Lib.index (b::r) [32,32]== -1)=true:=by simpa using e
    rw[if_neg d]at h;obtain⟨j,rfl⟩:∃j,i=j+1:=⟨i - 1,by omega⟩
    rw[if_neg c,sg (s:=b::r) (i:=j) oo];rfl
theorem k9:∀(f:Nat) (s:List UInt8),s.length<=f->Lib.countFrom [32,32] f s=Lib.countFrom [32,32] s.length s
 |0,s,h=>by rw[q5 (by omega:s.length=0)];rfl
 |f+1,s,h=>by
  have c:=Lib.index_ge s [32,32];rw[Lib.countFrom];by_cases b:(Lib.index s [32,32]== -1)=true
  ·rw[if_pos b];cases e:s.length with
   |zero=>rfl
   |succ n=>rw[Lib.countFrom,if_pos b]
  ·rw[if_neg b]
   have a:=Lib.index_room s [32,32] (by have:¬Lib.index s [32,32]= -1:=by simpa using b
                                        omega)
   simp only[qf,qv]at a;obtain⟨n,d⟩:∃n,s.length=n+1:=⟨s.length - 1,by omega⟩
   rw[d,Lib.countFrom,if_neg b,k9 f _ (by rw[yl];simp only[qf,qv];omega),
    k9 n _ (by rw[yl];simp only[qf,qv];omega)]
theorem tl:∀(n:Nat) (s:List UInt8) (k:Nat),s.length<=n->Lib.countFrom [32,32] s.length s<=k->Lib.replaceK [32,32] [32] k s=repD s
 |n,s,k,hn,hk=>by
  have e:=Lib.index_ge s [32,32];by_cases d:Lib.index s [32,32]= -1
  ·rw[si d];cases k with
   |zero=>rfl
   |succ k=>rw[Lib.replaceK,if_pos (by simpa using d)]
  ·have a:=Lib.index_room s [32,32] oo;simp only[qf,qv]at a;obtain⟨l,f⟩:∃l,s.length=l+1:=⟨s.length - 1,by omega⟩
   have b:¬(Lib.index s [32,32]== -1)=true:=by simpa using d
   obtain⟨i,c⟩:∃i:Nat,Lib.index s [32,32]=i:=⟨(Lib.index s [32,32]).toNat,by omega⟩
   rw[f,Lib.countFrom,if_neg b]at hk;cases k with
   |zero=>omega
   |succ k=>
    cases n with
    |zero=>omega
    |succ n=>
     rw[Lib.replaceK,if_neg b,sg c,c];simp only[qf,qv,Nat.reduceAdd,qg];rw[c]at hk;simp only[qf,qv,Nat.reduceAdd,qg]at hk
     rw[tl n (s.drop (i+2)) k (by rw[yl];omega) (by
      rw[k9 l _ (by rw[yl];omega)]at hk;omega)]
theorem CO(s:List UInt8):Lib.replaceAll s [32,32] [32]=repD s:=by
 unfold Lib.replaceAll Lib.replace;rw[if_neg dd];refine tl s.length s _ (qj _) ?_;rw[Lib.replaceNum,if_pos (.inl dd),Lib.count,k9 (s.length+1) s oo];exact qj _
theorem afun:AFun:=by
 intro F s ⟨m,i⟩ k
 refine cP (gh (F:=F) (args:=[.va (.str s),.va (.str [32,32]),.va (.str [32])]) (out:=.ret (.va (.str (repD s)))) (vs:=[.string ⟨s.toArray⟩,.string ⟨#[32,32]⟩,.string ⟨#[32]⟩]) (Sx.enters_of func249 rfl dd) rfl (by
   rintro ρ b h
   match b,h with
   |[v,u,t],h=>rw[h.1,h.2.1,h.2.2.1];rfl) (.returned (.string ⟨(repD s).toArray⟩)) (fun ρ=>⟨_,rfl,rfl⟩) (fun C ρ w S=>by
   have h:=Tryz.strings_ReplaceAll ⟨s.toArray⟩ ⟨#[32,32]⟩ ⟨#[32]⟩ m w (by show s.toArray.size < _;simp;omega) (tN S i) dd (by
    have a:=Lib.countB_mul_le ⟨#[32,32]⟩ dd _ ⟨s.toArray⟩ (qj _);have d:(⟨#[32,32]⟩:ByteArray).size=2:=rfl;have f:(⟨#[32]⟩:ByteArray).size=1:=rfl;have c:(⟨s.toArray⟩:ByteArray).size=s.length:=by show s.toArray.size=_;simp
    rw[d,c]at a;rw[f,c];omega)
   refine h.mono fun e l ⟨h1,g⟩=>⟨?_,g⟩
   rw[h1,<-CO])) fun o j h=>⟨h.2.symm,h.1⟩
theorem uH:∀n:Nat,Lib.repeatL [48] n=List.replicate n 48
 |0=>rfl
 |n+1=>by rw[Lib.repeatL,uH n,qb9];rfl
theorem nfun:NFun:=by
 intro F n d
 refine cP (gh (F:=F) (args:=[.va (.str [48]),.va (.int .i64 n)]) (out:=.ret (.va (.str (List.replicate n 48)))) (vs:=[.string ⟨#[48]⟩,.int .i64 n]) (Sx.enters_of func250 rfl dd) rfl (by
   rintro ρ a h
   match a,h with
   |[v,u],h=>rw[h.1,h.2.1];rfl) (.returned (.string ⟨(List.replicate n 48).toArray⟩)) (fun ρ=>⟨_,rfl,rfl⟩) (fun C ρ w S=>by
   have h:=Tryz.strings_Repeat ⟨#[48]⟩ n w oo (by show 1*n<=_;omega);refine h.mono fun e f ⟨h1,b⟩=>⟨?_,b⟩
   rw[h1,<-uH])) fun o c h=>⟨h.2.symm,h.1⟩
theorem ya8(s:List UInt8):Lib.trimS s [48,49]=[]↔s.all (fun b=>b==48||b==49)=true:=by
 have e:∀b:UInt8,[48,49].contains b=(b==48||b==49):=fun b=>by
  simp[List.contains,List.elem];cases h1:(b==48)<;>cases d:(b==49)<;>rfl
 have c:∀l:List UInt8,l.dropWhile ([48,49].contains ·)=[]↔l.all (fun b=>b==48||b==49)=true:=by
  intro l
  induction l with
  |nil=>simp
  |cons a r ih=>
   rw[List.dropWhile_cons,qbr,e];cases h:(a==48||a==49)with
   |true=>simpa using ih
   |false=>simp
 unfold Lib.trimS Lib.trimLeftS Lib.trimRightS;rw[c,qdg];constructor
 ·intro h
  have h1:s.reverse.all (fun b=>b==48||b==49)=true:=by
   rw[<-List.takeWhile_append_dropWhile (p:=([48,49].contains ·)) (l:=s.reverse),qcx,h,qdb];refine qo.2 fun b hb=>?_
   have d:=qo.1 (List.all_takeWhile (p:=([48,49].contains ·)) (l:=s.reverse)) b hb;rw[<-e];exact d
  rwa[qdg]at h1
 ·intro h;rw[(c s.reverse).2 (by rw[qdg];exact h)];rfl
theorem tfun:TFun:=by
 intro F s d
 refine cP (gh (F:=F) (args:=[.va (.str s),.va (.str [48,49])]) (out:=.ret (.va (.str (Lib.trimS s [48,49])))) (vs:=[.string ⟨s.toArray⟩,.string ⟨#[48,49]⟩]) (Sx.enters_of func184 rfl dd) rfl (by
   rintro ρ a h
   match a,h with
   |[v,u],h=>rw[h.1,h.2.1];rfl) (.returned (.string ⟨(Lib.trimS s [48,49]).toArray⟩)) (fun ρ=>⟨_,rfl,rfl⟩) (fun C ρ w S=>by
   have h:=Any.strings_Trim_laid Tryz.lays160 (by kernel_rfl) ⟨s.toArray⟩ ⟨#[48,49]⟩ w (by show s.toArray.size<=_;simp;omega) dd (ascii_of_all dd);refine h.mono fun e f ⟨h1,b⟩=>⟨?_,b⟩
   rw[h1])) fun o c h=>⟨h.2.symm,_,h.1,ya8 s⟩
def badR(r:Nat):Bool:=!(decide (32<=r)&&decide (r<=126))
theorem yd8(w:World):PredAtRunes prog 242 #[] badR w:=by
 intro W x hx hb;unfold FnGives;have e:IntKind.i64.wrap (x:Int)=x:=by rw[IntKind.wrap_i64];omega
 go_enter func242,Tryz.ntmps242
 by_cases h1:32<=x
 ·by_cases h2:x<=126
  ·go_wp2
   all_goals go_ret
   all_goals refine⟨?_,0,rfl⟩
   all_goals(simp[badR,h1,h2];try omega)
  ·go_wp2
   all_goals go_ret
   all_goals refine⟨?_,0,rfl⟩
   all_goals(simp[badR,h1,h2];try omega)
 ·go_wp2
  all_goals go_ret
  all_goals refine⟨?_,0,rfl⟩
  all_goals(simp[badR,h1];try omega)
theorem qN(s:List UInt8):∀(f pos:Nat),s.length<=pos+f->decide (0<=Lib.idxFuncFrom badR true ⟨s.toArray⟩ f pos)=(s.drop pos).any badC
 |0,pos,h=>by rw[qbm oo];rfl
 |f+1,pos,h=>by
  have a:(⟨s.toArray⟩:ByteArray).size=s.length:=by show s.toArray.size=_;simp
  rw[Lib.idxFuncFrom,a];by_cases c:pos < s.length
  ·rw[if_pos c,ji c,List.any_cons];have b:((⟨s.toArray⟩:ByteArray)[pos]'(by rw[a];exact c))=s[pos]:=by simp[ByteArray.getElem_eq_getElem_data]
   by_cases j:(s[pos]).toNat < 128
   ·rw[decode_ascii ⟨s.toArray⟩ pos (by rw[a];exact c) (by rw[b];exact j),b];have e:badR (s[pos]).toNat=badC s[pos]:=rfl;cases d:badC s[pos]with
    |true=>rw[if_pos (by rw[e,d])];simp
    |false=>rw[if_neg (by rw[e,d];simp),qa8];exact qN s f (pos+1) oo
   ·have k:=decode_high ⟨s.toArray⟩ pos (by rw[a];exact c) (by rw[b];omega)
    have g:badR (Utf8.decode ⟨s.toArray⟩ pos).1=true:=by
     unfold badR;have:¬(Utf8.decode ⟨s.toArray⟩ pos).1<=126:=by omega
     simp[this]
    have i:badC s[pos]=true:=by
     unfold badC;have:¬(s[pos]).toNat<=126:=by omega
     simp[this]
    rw[if_pos g,i];simp
  ·rw[if_neg c,qbm oo];rfl
theorem cfun:CFun:=by
 intro F s d
 refine cP (gh (F:=F) (args:=[.va (.str s),.va (.fn (.func 242) [])]) (out:=.ret (.va (.bool (s.any badC)))) (vs:=[.string ⟨s.toArray⟩,.func (.func 242) #[] #[]]) (Sx.enters_of func241 rfl dd) rfl (by
   rintro ρ a h
   match a,h with
   |[v,u],h=>rw[h.1,h.2.1];rfl) (.returned (.bool (s.any badC))) (fun ρ=>⟨_,rfl,rfl⟩) (fun C ρ w S=>by
   have h:=Any.strings_ContainsFunc_runes Tryz.laysGw17 242 #[] (enters_of func242 (by kernel_rfl) rfl) badR ⟨s.toArray⟩ w (yd8 w);refine h.mono fun e f ⟨h1,b⟩=>⟨?_,b⟩
   rw[h1,Lib.idxFunc,qN s _ 0 (by show s.length<=0+s.toArray.size;simp),y5])) fun o c h=>⟨h.1,h.2⟩
theorem Dw(p q:Addr)(w:World):
  CallsD prog 126 #[.pointer (some p),.pointer (some q)] .returning w fun e u' w'=>e=.returned (.tuple #[])/\u'=.returning/\w'=w:=by
 refine callsD_of_wpS func126 rfl fun c₀ cs hu=>?_
 simp only[Tryz.ntmps126,y9,qf,qv,Nat.reduceAdd,Nat.reduceSub,qaf,qag,qat,qak,qw,jz];apply wpS_seq;apply wpS_region;simp[wpOpsS,go_sem,recoverD,hu,Exit.thenS];refine wpS_of_wp ?_
 go_wp2
 refine⟨rfl,.returning,by cases c₀;simp_all,_,results_none rfl _ _ _,rfl,rfl,rfl⟩
theorem as29(v:Value)(w:World):(Instr.typeAssert (.iface 35 v) 20 35 true).run prog w=.ok (.tuple #[v,.bool true]) w:=by kernel_rfl
set_option maxRecDepth 100000 in
theorem Ed(p q:Addr)(n:Int)(w:World)(u v:Value)(hp:w.cell? p=some u)(fp:w.frozen? p=false)(hq:(w.setCell p (.string ⟨#[]⟩)).cell? q=some v)(fq:(w.setCell p (.string ⟨#[]⟩)).frozen? q=false):
  CallsD prog 126 #[.pointer (some p),.pointer (some q)] (.panicking [{ v:=.iface 35 (.int .i64 n),recovered:=false }]) w fun e u' w'=>e=.returned (.tuple #[])/\settle u'=.returning/\w'=(w.setCell p (.string ⟨#[]⟩)).setCell q (.int .i64 n):=by
 refine callsD_of_wpS func126 rfl fun c₀ cs hu=>?_
 simp only[Tryz.ntmps126,y9,qf,qv,Nat.reduceAdd,Nat.reduceSub,qaf,qag,qat,qak,qw,jz];apply wpS_seq;apply wpS_region;simp[wpOpsS,go_sem,recoverD,hu,Exit.thenS];refine wpS_of_wp ?_;have has:=as29 (.int .i64 n) w;rw[World.frozen?_setCell]at fq
 go_wp2
 exact⟨rfl,_,rfl,_,results_none rfl _ _ _,rfl,by simp[settle],rfl⟩
theorem one_cell{C:Ctx}{ρ:Rho}{h:Hp}{nx:Nat}{w:World}{i t:Nat}{a:SA}(S:Sat C ρ h nx w)(d:lget h i=some (.one (.cells t [a]))):w.cell? ⟨ρ i 0,0,none⟩=some (a.den ρ)/\w.frozen? ⟨ρ i 0,0,none⟩=false:=by
 obtain⟨o,e,b⟩:=S.blk i _ d 0 rfl;have c:RowAt w (ρ i 0) t [a.den ρ]:=⟨o,e,b⟩
 exact⟨by rw[c.cell 0];rfl,c.free 0 ss⟩
theorem Dv{h:Hp}{nx:Nat}{K:Hp->Nat->Prop}(i j:Nat)(a:K h nx):DefWP prog 126 [.ptr ⟨i,0,0,0,0⟩,.ptr ⟨j,0,0,0,0⟩] h nx none K:=by
 unfold DefWP;intro C ρ w S hb;refine⟨Sx.enters_of func126 rfl dd,?_⟩;refine(Dw ⟨ρ i 0,0*0+0,none⟩ ⟨ρ j 0,0*0+0,none⟩ w).mono ?_;rintro e b c ⟨rfl,rfl,rfl⟩;exact⟨_,h,nx,ρ,rfl,rfl,a,S,fun _ _=>rfl,qj _⟩
theorem tB{h:Hp}{nx:Nat}{K:Hp->Nat->Prop}(i j:Nat)(s0:List UInt8)(e0:Int)(hi:lget h i=some (.one (.cells 9 [.str s0])))(hj:lget h j=some (.one (.cells 35 [.int .i64 e0])))(hij:¬i=j)
  (hs:kJ Θ 9 (.va (.ptr ⟨i,0,0,0,0⟩)) (.va (.str [])) h nx fun _ h1 _=>kJ Θ 35 (.va (.ptr ⟨j,0,0,0,0⟩)) (.va (.int .i64 70)) h1 nx fun _ h2 _=>K h2 nx):
  DefWP prog 126 [.ptr ⟨i,0,0,0,0⟩,.ptr ⟨j,0,0,0,0⟩] h nx (some perr) K:=by
 unfold DefWP;intro C ρ w S hb;refine⟨Sx.enters_of func126 rfl dd,?_⟩;obtain⟨p1,p2⟩:=one_cell S hi;obtain⟨q1,q2⟩:=one_cell S hj;have hne:ρ i 0≠ρ j 0:=fun e=>hij (S.inj i 0 j 0 ⟨_,hi,rfl⟩ ⟨_,hj,rfl⟩ e).1
 have q3:(w.setCell ⟨ρ i 0,0,none⟩ (.string ⟨#[]⟩)).cell? ⟨ρ j 0,0,none⟩=some (.int .i64 e0):=by
  rw[World.cell?_setCell_other _ _ _ _ (by simp)];exact q1
 have q4:(w.setCell ⟨ρ i 0,0,none⟩ (.string ⟨#[]⟩)).frozen? ⟨ρ j 0,0,none⟩=false:=by
  rw[World.frozen?_setCell];exact q2
 obtain⟨w1,h1,r1,k1,S1⟩:=oN hΘ hs S (v:=.pointer (some ⟨ρ i 0,0*0+0,none⟩)) (u:=.string ⟨#[]⟩) rfl rfl trivial;obtain⟨w2,h2,r2,k2,S2⟩:=oN hΘ k1 S1 (v:=.pointer (some ⟨ρ j 0,0*0+0,none⟩)) (u:=.int .i64 70) rfl rfl trivial
 have e1:(Instr.storeAt 9 (.pointer (some ⟨ρ i 0,0,none⟩)) (.string ⟨#[]⟩)).run prog w=.ok () (w.setCell ⟨ρ i 0,0,none⟩ (.string ⟨#[]⟩)):=by
  simp[go_sem,p1,p2]
 have e2:(Instr.storeAt 35 (.pointer (some ⟨ρ j 0,0,none⟩)) (.int .i64 70)).run prog (w.setCell ⟨ρ i 0,0,none⟩ (.string ⟨#[]⟩))=.ok () ((w.setCell ⟨ρ i 0,0,none⟩ (.string ⟨#[]⟩)).setCell ⟨ρ j 0,0,none⟩ (.int .i64 70)):=by
  simp[go_sem,q2,q3]
 have w1e:w.setCell ⟨ρ i 0,0,none⟩ (.string ⟨#[]⟩)=w1:=by have:=e1.symm.trans r1;cases this;rfl
 rw[w1e]at e2;have w2e:w1.setCell ⟨ρ j 0,0,none⟩ (.int .i64 70)=w2:=by have:=e2.symm.trans r2;cases this;rfl
 refine(Ed ⟨ρ i 0,0*0+0,none⟩ ⟨ρ j 0,0*0+0,none⟩ 70 w _ _ p1 p2 q3 q4).mono ?_;rintro e u' w' ⟨rfl,hu,rfl⟩;refine⟨_,h2,nx,ρ,rfl,hu,k2,?_,fun _ _=>rfl,qj _⟩;show Sat C ρ h2 nx ((w.setCell ⟨ρ i 0,0,none⟩ (.string ⟨#[]⟩)).setCell ⟨ρ j 0,0,none⟩ (.int .i64 70));rw[w1e,w2e];exact S2
end Go.Proofs.YtfnkamphhpldcaaGreatDoor
namespace Go.Proofs.YtfnkamphhpldcaaGreatDoor
open Go Sx Tryz
def dK(p:Int):List Int->List Int->Prop
 |_,[]=>True
 |acc,x::r=>((bnd p acc).1<=x/\x<=(bnd p acc).2)/\dK p (acc++[x]) r
def lnOk(p:Int)(a:List Ln)(x:Ln):Prop:=
 if p=1 then x.2=[]/\x.1.length<=80/\x.1.any badC=false
 else x.1=[]/\x.2.length=cols p/\dK p [] x.2/\(p≠2->∀y,a.getLast? =some y->cmpL (y.2.take 2) (x.2.take 2) < 0)
def lnsOk(p:Int):List Ln->List Ln->Prop
 |_,[]=>True
 |acc,x::r=>lnOk p acc x/\lnsOk p (acc++[x]) r
def VOK(p:Int)(v:Val):Prop:=
 v=loseV\/(v.lost=false/\
  if p=8 then v.lines=[]/\v.bits=[]/\(0<=v.w/\v.w<=64)/\(0<=v.h/\v.h<=64)
  else if 6<=p then v.lines=[]/\(0<=v.w/\v.w<=32)/\(min v.w 1<=v.h/\v.h<=min v.w 1*32)/\(if p=7 then(v.bits.length:Int)=v.w*v.h/\v.bits.all (fun b=>b==48||b==49)=true else v.bits=[])
  else v.w=0/\v.h=0/\v.bits=[]/\v.lines.length<=64/\lnsOk p [] v.lines)
theorem cy{s:List UInt8}{q b a:Int}:aX s q b a=true↔(getI s q).2.2=0/\b<=(getI s q).1/\(getI s q).1<=a:=by
 unfold aX;simp
theorem wa{s:List UInt8}{p:Int}:∀(f:Nat) (acc:List Int) (q:Int) (n:List Int) (a:Int),numsS s p f acc q=some (n,a)->∃m,n=acc++m/\m.length=f/\dK p acc m
 |0,acc,q,n,a,h=>by
  simp only[numsS,Option.some.injEq,Prod.mk.injEq]at h;exact⟨[],by simp[h.1],rfl,tv⟩
 |f+1,acc,q,n,a,h=>by
  rw[numsS]at h;split at h
  ·rename_i d;obtain⟨m,h1,b,c⟩:=wa f _ _ _ _ h;exact⟨(getI s q).1::m,by rw[h1];simp,by rw[qf,b],(cy.1 d).2,c⟩
  ·cases h
theorem Aa{s:List UInt8}{p:Int}{acc:List Ln}{q j:Int}{x:Ln}(h:lineS s p acc q=some (x,j)):lnOk p acc x:=by
 unfold lineS at h;unfold lnOk;split at h
 ·rename_i f;rw[if_pos f];split at h
  ·rename_i a;simp only[Option.some.injEq,Prod.mk.injEq]at h;obtain⟨rfl,_⟩:=h;exact⟨rfl,a.2.1,a.2.2⟩
  ·cases h
 ·rename_i f;rw[if_neg f];split at h
  ·cases h
  ·rename_i n k i;obtain⟨m,h1,c,d⟩:=wa _ _ _ _ _ i;rw[qw]at h1;subst h1;split at h
   ·rename_i g;simp only[Option.some.injEq,Prod.mk.injEq]at h;obtain⟨rfl,_⟩:=h;exact⟨rfl,c,d,fun a=>absurd g a⟩
   ·split at h
    ·rename_i e;simp only[Option.some.injEq,Prod.mk.injEq]at h;obtain⟨rfl,_⟩:=h;exact⟨rfl,c,d,fun _ y b=>by rw[e]at b;cases b⟩
    ·rename_i x e;split at h
     ·rename_i a;simp only[Option.some.injEq,Prod.mk.injEq]at h;obtain⟨rfl,_⟩:=h;exact⟨rfl,c,d,fun _ y b=>by rw[e]at b;cases b;exact a⟩
     ·cases h
theorem ux{s:List UInt8}{p:Int}:∀(f:Nat) (acc:List Ln) (q:Int) (l:List Ln) (a:Int),bZ s p f acc q=some (l,a)->∃m,l=acc++m/\m.length=f/\lnsOk p acc m
 |0,acc,q,n,a,h=>by
  simp only[bZ,Option.some.injEq,Prod.mk.injEq]at h;exact⟨[],by simp[h.1],rfl,tv⟩
 |f+1,acc,q,n,a,h=>by
  rw[bZ]at h;split at h
  ·cases h
  ·rename_i x e d;obtain⟨m,h1,b,c⟩:=ux f _ _ _ _ h;exact⟨x::m,by rw[h1];simp,by rw[qf,b],Aa d,c⟩
theorem mq{p:Int}{s:List UInt8}{v:Val}(h:readS p s=some v):(1<=p/\p<=8)/\VOK p v:=by
 unfold readS at h;split at h
 ·cases h
 rename_i e;have e:1<=p/\p<=8:=by simpa using e
 refine⟨e,?_⟩;split at h
 ·cases h;exact .inl rfl
 right;split at h
 ·rename_i b;split at h
  ·rename_i a;cases h
   refine⟨rfl,?_⟩;rw[if_pos b];exact⟨rfl,rfl,(cy.1 a.1).2,(cy.1 a.2.1).2⟩
  ·cases h
 rename_i b;split at h
 ·rename_i c;dsimp only at h;split at h
  ·rename_i a;split at h
   ·rename_i d;split at h
    ·rename_i hb;cases h
     refine⟨rfl,?_⟩;rw[if_neg b,if_pos c];refine⟨rfl,(cy.1 a.1).2,(cy.1 a.2).2,?_⟩;rw[if_pos d];exact⟨hb.2.1,hb.2.2.1⟩
    ·cases h
   ·rename_i d;split at h
    ·cases h
     refine⟨rfl,?_⟩;rw[if_neg b,if_pos c];refine⟨rfl,(cy.1 a.1).2,(cy.1 a.2).2,?_⟩;rw[if_neg d]
    ·cases h
  ·cases h
 ·rename_i c;split at h
  ·rename_i a;split at h
   ·cases h
   ·rename_i l q i;split at h
    ·cases h
     refine⟨rfl,?_⟩;rw[if_neg b,if_neg c];obtain⟨m,h1,f,g⟩:=ux _ _ _ _ _ i;rw[qw]at h1;subst h1;have j:=(cy.1 a).2;exact⟨rfl,rfl,rfl,by rw[f];omega,g⟩
    ·cases h
  ·cases h
