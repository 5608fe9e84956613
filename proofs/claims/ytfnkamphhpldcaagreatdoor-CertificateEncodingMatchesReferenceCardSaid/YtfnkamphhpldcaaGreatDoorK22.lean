import Derived.Test.YtfnkamphhpldcaaGreatDoorK17
import Derived.Test.YtfnkamphhpldcaaGreatDoorK21
import Derived.Shelf.GgClosure.StringsRunes
import Derived.Shelf.Strings.SlTrimAscii
import Derived.Laws.RangeAny
import Derived.Laws.RangeString
import Derived.Defers
import Derived.Recover
set_option maxHeartbeats 64000000
namespace Go.Proofs.YtfnkamphhpldcaaGreatDoor
open Go Go.RowKit Sx Tryz
theorem th{C:Ctx}{ρ:Rho}{F:Fz}{w:World}{m:Int}(S:Sat C ρ [[(0,.frz F)]] 1 w)(h:F 4=some (.cells 3 [.int .i64 m])):w.cell? ⟨4,0,none⟩=some (.int .i64 m):=by
 obtain⟨o,b,a⟩:=S.blk 0 (.frz F) rfl 4 (by simp[Ent.has,h]);rw[S.id0]at b;simp only[Ent.at,h,yk,SB.ok]at a;obtain⟨fr,_,rfl⟩:=a;simp[World.cell?,b,SA.den]
theorem cK{P:Program}{F:Fz}{f:FuncId}{args:List SV}{Q c:Out->Fz->Prop}(h:Fo P F f args Q)(l:∀o b,Q o b->c o b):Fo P F f args c:=by
 unfold Fo at*;refine nV h fun o h n j=>?_
 unfold Cln at*;intro C ρ w e k S m i;obtain⟨a,d,g,n0,y,⟨p,q,s,u,x⟩,r⟩:=j C ρ w e k S m i;exact⟨a,d,g,n0,y,⟨p,q,s,u,l _ _ x⟩,r⟩
theorem lfun:LFun Lib.toLowerA:=by
 intro F s f a
 refine cK (fR (F:=F) (args:=[.va (.str s)]) (out:=.ret (.va (.str (Lib.toLowerA s)))) (vs:=[.string ⟨s.toArray⟩]) (Sx.enters_of func247 rfl dd) rfl (by
   rintro ρ d h
   match d,h with
   |[v],h=>rw[h.1];rfl) (.returned (.string ⟨(Lib.toLowerA s).toArray⟩)) (fun ρ=>⟨_,rfl,rfl⟩) (fun C ρ w _=>by
   have h:=Tryz.strings_ToLower_ascii ⟨s.toArray⟩ w (by show s.toArray.size<=_;simp;omega) (fun j b c=>a b (by
    have c:s[j]? =some b:=by simpa using c
    exact yw c))
   simpa using h)) fun o e h=>⟨h.2.symm,h.1⟩
theorem pre2(a b:UInt8)(r:List UInt8):List.isPrefixOf [32,32] (a::b::r)=(a==32&&b==32):=by
 simp[List.isPrefixOf,Bool.beq_comm (a:=(32:UInt8))]
theorem lp:∀s:List UInt8,decide (0<=Lib.index s [32,32])=hasD s
 |[]=>by simp[Lib.index,hasD]
 |[a]=>by
  simp[Lib.index,hasD,List.isPrefixOf]
 |a::b::r=>by
  have ih:=lp (b::r);have e:=Lib.index_ge (b::r) [32,32];rw[Lib.index,pre2,hasD];by_cases c:(a==32&&b==32)=true
  ·rw[c];simp
  ·rw[qc7.2 c,qa6,<-ih];by_cases d:Lib.index (b::r) [32,32]= -1
   ·rw[d];simp
   ·have:¬(Lib.index (b::r) [32,32]== -1)=true:=by simpa using d
    simp only[jy,if_false,if_neg this];exact decide_eq_decide.2 oo
theorem CN(s:List UInt8):Lib.contains s [32,32]=hasD s:=lp s
theorem dfun:DFun:=by
 intro F s ⟨m,c⟩ f
 refine cK (fR (F:=F) (args:=[.va (.str s),.va (.str [32,32])]) (out:=.ret (.va (.bool (hasD s)))) (vs:=[.string ⟨s.toArray⟩,.string ⟨#[32,32]⟩]) (Sx.enters_of func248 rfl dd) rfl (by
   rintro ρ a h
   match a,h with
   |[v,u],h=>rw[h.1,h.2.1];rfl) (.returned (.bool (hasD s))) (fun ρ=>⟨_,rfl,rfl⟩) (fun C ρ w S=>by
   have h:=Tryz.strings_Contains ⟨s.toArray⟩ ⟨#[32,32]⟩ m w (by show s.toArray.size < _;simp;omega) (th S c);refine h.mono fun e g ⟨h1,b⟩=>⟨?_,b▸Below.refl _ _⟩
   rw[h1,<-CN])) fun o d h=>⟨h.2.symm,h.1⟩
theorem rp:∀{s:List UInt8},Lib.index s [32,32]= -1->repD s=s
 |[],_=>rfl
 |[a],_=>rfl
 |a::b::r,h=>by
  have d:=lp (a::b::r);rw[h,hasD]at d;have c:=d.symm;rw[show decide ((0:Int)<= -1)=false from rfl,Bool.or_eq_false_iff]at c;have f:=Lib.index_ge (b::r) [32,32]
  have e:Lib.index (b::r) [32,32]= -1:=by
   have:=lp (b::r);rw[c.2]at this;have:=oe this;omega
  rw[repD,if_neg (by rw[c.1];simp),rp e]
theorem ro:∀{s:List UInt8} {i:Nat},Lib.index s [32,32]=i->repD s=s.take i++[32]++repD (s.drop (i+2))
 |[],i,h=>by simp[Lib.index]at h
 |[a],i,h=>by simp[Lib.index,List.isPrefixOf]at h
 |a::b::r,i,h=>by
  rw[Lib.index,pre2]at h;rw[repD];by_cases c:(a==32&&b==32)=true
  ·rw[c]at h;simp only[if_true]at h;have:i=0:=by omega
   subst this;rw[if_pos c];rfl
  ·rw[qc7.2 c]at h;simp only[jy,if_false]at h;have f:=Lib.index_ge (b::r) [32,32];by_cases e:Lib.index (b::r) [32,32]= -1
   ·rw[e]at h;simp at h
   ·have d:¬(Lib.index (b::r) [32,32]== -1)=true:=by simpa using e
    rw[if_neg d]at h;obtain⟨j,rfl⟩:∃j,i=j+1:=⟨i - 1,by omega⟩
    rw[if_neg c,ro (s:=b::r) (i:=j) oo];rfl
theorem kZ:∀(f:Nat) (s:List UInt8),s.length<=f->Lib.countFrom [32,32] f s=Lib.countFrom [32,32] s.length s
 |0,s,h=>by rw[ji (by omega:s.length=0)];rfl
 |f+1,s,h=>by
  have c:=Lib.index_ge s [32,32];rw[Lib.countFrom];by_cases b:(Lib.index s [32,32]== -1)=true
  ·rw[if_pos b];cases e:s.length with
   |zero=>rfl
   |succ n=>rw[Lib.countFrom,if_pos b]
  ·rw[if_neg b]
   have a:=Lib.index_room s [32,32] (by have:¬Lib.index s [32,32]= -1:=by simpa using b
                                        omega)
   simp only[qe,qu]at a;obtain⟨n,d⟩:∃n,s.length=n+1:=⟨s.length - 1,by omega⟩
   rw[d,Lib.countFrom,if_neg b,kZ f _ (by rw[yj];simp only[qe,qu];omega),
    kZ n _ (by rw[yj];simp only[qe,qu];omega)]
theorem ta:∀(n:Nat) (s:List UInt8) (k:Nat),s.length<=n->Lib.countFrom [32,32] s.length s<=k->Lib.replaceK [32,32] [32] k s=repD s
 |n,s,k,hn,hk=>by
  have e:=Lib.index_ge s [32,32];by_cases d:Lib.index s [32,32]= -1
  ·rw[rp d];cases k with
   |zero=>rfl
   |succ k=>rw[Lib.replaceK,if_pos (by simpa using d)]
  ·have a:=Lib.index_room s [32,32] oo;simp only[qe,qu]at a;obtain⟨l,f⟩:∃l,s.length=l+1:=⟨s.length - 1,by omega⟩
   have b:¬(Lib.index s [32,32]== -1)=true:=by simpa using d
   obtain⟨i,c⟩:∃i:Nat,Lib.index s [32,32]=i:=⟨(Lib.index s [32,32]).toNat,by omega⟩
   rw[f,Lib.countFrom,if_neg b]at hk;cases k with
   |zero=>omega
   |succ k=>
    cases n with
    |zero=>omega
    |succ n=>
     rw[Lib.replaceK,if_neg b,ro c,c];simp only[qe,qu,Nat.reduceAdd,qn];rw[c]at hk;simp only[qe,qu,Nat.reduceAdd,qn]at hk
     rw[ta n (s.drop (i+2)) k (by rw[yj];omega) (by
      rw[kZ l _ (by rw[yj];omega)]at hk;omega)]
theorem CH(s:List UInt8):Lib.replaceAll s [32,32] [32]=repD s:=by
 unfold Lib.replaceAll Lib.replace;rw[if_neg dd];refine ta s.length s _ (qi _) ?_;rw[Lib.replaceNum,if_pos (.inl dd),Lib.count,kZ (s.length+1) s oo];exact qi _
theorem afun:AFun:=by
 intro F s ⟨m,i⟩ k
 refine cK (fR (F:=F) (args:=[.va (.str s),.va (.str [32,32]),.va (.str [32])]) (out:=.ret (.va (.str (repD s)))) (vs:=[.string ⟨s.toArray⟩,.string ⟨#[32,32]⟩,.string ⟨#[32]⟩]) (Sx.enters_of func249 rfl dd) rfl (by
   rintro ρ b h
   match b,h with
   |[v,u,t],h=>rw[h.1,h.2.1,h.2.2.1];rfl) (.returned (.string ⟨(repD s).toArray⟩)) (fun ρ=>⟨_,rfl,rfl⟩) (fun C ρ w S=>by
   have h:=Tryz.strings_ReplaceAll ⟨s.toArray⟩ ⟨#[32,32]⟩ ⟨#[32]⟩ m w (by show s.toArray.size < _;simp;omega) (th S i) dd (by
    have a:=Lib.countB_mul_le ⟨#[32,32]⟩ dd _ ⟨s.toArray⟩ (qi _);have d:(⟨#[32,32]⟩:ByteArray).size=2:=rfl;have f:(⟨#[32]⟩:ByteArray).size=1:=rfl;have c:(⟨s.toArray⟩:ByteArray).size=s.length:=by show s.toArray.size=_;simp
    rw[d,c]at a;rw[f,c];omega)
   refine h.mono fun e l ⟨h1,g⟩=>⟨?_,g⟩
   rw[h1,<-CH])) fun o j h=>⟨h.2.symm,h.1⟩
theorem uw:∀n:Nat,Lib.repeatL [48] n=List.replicate n 48
 |0=>rfl
 |n+1=>by rw[Lib.repeatL,uw n,qb2];rfl
theorem nfun:NFun:=by
 intro F n d
 refine cK (fR (F:=F) (args:=[.va (.str [48]),.va (.int .i64 n)]) (out:=.ret (.va (.str (List.replicate n 48)))) (vs:=[.string ⟨#[48]⟩,.int .i64 n]) (Sx.enters_of func250 rfl dd) rfl (by
   rintro ρ a h
   match a,h with
   |[v,u],h=>rw[h.1,h.2.1];rfl) (.returned (.string ⟨(List.replicate n 48).toArray⟩)) (fun ρ=>⟨_,rfl,rfl⟩) (fun C ρ w S=>by
   have h:=Tryz.strings_Repeat ⟨#[48]⟩ n w oo (by show 1*n<=_;omega);refine h.mono fun e f ⟨h1,b⟩=>⟨?_,b⟩
   rw[h1,<-uw])) fun o c h=>⟨h.2.symm,h.1⟩
theorem Cb(s:List UInt8):Lib.trimS s [48,49]=[]↔s.all (fun b=>b==48||b==49)=true:=by
 have e:∀b:UInt8,[48,49].contains b=(b==48||b==49):=fun b=>by
  simp[List.contains,List.elem];cases h1:(b==48)<;>cases d:(b==49)<;>rfl
 have c:∀l:List UInt8,l.dropWhile ([48,49].contains ·)=[]↔l.all (fun b=>b==48||b==49)=true:=by
  intro l
  induction l with
  |nil=>simp
  |cons a r ih=>
   rw[List.dropWhile_cons,qb4,e];cases h:(a==48||a==49)with
   |true=>simpa using ih
   |false=>simp
 unfold Lib.trimS Lib.trimLeftS Lib.trimRightS;rw[c,qdc];constructor
 ·intro h
  have h1:s.reverse.all (fun b=>b==48||b==49)=true:=by
   rw[<-List.takeWhile_append_dropWhile (p:=([48,49].contains ·)) (l:=s.reverse),List.all_append,h,qd0];refine qp.2 fun b f=>?_
   have d:=qp.1 (List.all_takeWhile (p:=([48,49].contains ·)) (l:=s.reverse)) b f;rw[<-e];exact d
  rwa[qdc]at h1
 ·intro h;rw[(c s.reverse).2 (by rw[qdc];exact h)];rfl
theorem tfun:TFun:=by
 intro F s d
 refine cK (fR (F:=F) (args:=[.va (.str s),.va (.str [48,49])]) (out:=.ret (.va (.str (Lib.trimS s [48,49])))) (vs:=[.string ⟨s.toArray⟩,.string ⟨#[48,49]⟩]) (Sx.enters_of func184 rfl dd) rfl (by
   rintro ρ a h
   match a,h with
   |[v,u],h=>rw[h.1,h.2.1];rfl) (.returned (.string ⟨(Lib.trimS s [48,49]).toArray⟩)) (fun ρ=>⟨_,rfl,rfl⟩) (fun C ρ w S=>by
   have h:=Any.strings_Trim_laid Tryz.lays160 (by kernel_rfl) ⟨s.toArray⟩ ⟨#[48,49]⟩ w (by show s.toArray.size<=_;simp;omega) dd (ascii_of_all dd);refine h.mono fun e f ⟨h1,b⟩=>⟨?_,b⟩
   rw[h1])) fun o c h=>⟨h.2.symm,_,h.1,Cb s⟩
def badR(r:Nat):Bool:=!(decide (32<=r)&&decide (r<=126))
theorem ybi(w:World):PredAtRunes prog 242 #[] badR w:=by
 intro W x hx hb;unfold FnGives;have e:IntKind.i64.wrap (x:Int)=x:=by rw[IntKind.wrap_i64];omega
 go_enter func242,Tryz.ntmps242
 by_cases h1:32<=x
 ·by_cases h2:x<=126
  ·go_wp2
   all_goals go_ret
   all_goals refine⟨?_,0,rfl⟩
   all_goals(simp[badR,h1,h2];try omega)
  ·go_wp2
   all_goals go_ret
   all_goals refine⟨?_,0,rfl⟩
   all_goals(simp[badR,h1,h2];try omega)
 ·go_wp2
  all_goals go_ret
  all_goals refine⟨?_,0,rfl⟩
  all_goals(simp[badR,h1];try omega)
theorem pW(s:List UInt8):∀(f pos:Nat),s.length<=pos+f->decide (0<=Lib.idxFuncFrom badR true ⟨s.toArray⟩ f pos)=(s.drop pos).any badC
 |0,pos,h=>by rw[qbj oo];rfl
 |f+1,pos,h=>by
  have a:(⟨s.toArray⟩:ByteArray).size=s.length:=by show s.toArray.size=_;simp
  rw[Lib.idxFuncFrom,a];by_cases c:pos < s.length
  ·rw[if_pos c,jj c,List.any_cons];have b:((⟨s.toArray⟩:ByteArray)[pos]'(by rw[a];exact c))=s[pos]:=by simp[ByteArray.getElem_eq_getElem_data]
   by_cases j:(s[pos]).toNat < 128
   ·rw[decode_ascii ⟨s.toArray⟩ pos (by rw[a];exact c) (by rw[b];exact j),b];have e:badR (s[pos]).toNat=badC s[pos]:=rfl;cases d:badC s[pos]with
    |true=>rw[if_pos (by rw[e,d])];simp
    |false=>rw[if_neg (by rw[e,d];simp),qa6];exact pW s f (pos+1) oo
   ·have k:=decode_high ⟨s.toArray⟩ pos (by rw[a];exact c) (by rw[b];omega)
    have g:badR (Utf8.decode ⟨s.toArray⟩ pos).1=true:=by
     unfold badR;have:¬(Utf8.decode ⟨s.toArray⟩ pos).1<=126:=by omega
     simp[this]
    have i:badC s[pos]=true:=by
     unfold badC;have:¬(s[pos]).toNat<=126:=by omega
     simp[this]
    rw[if_pos g,i];simp
  ·rw[if_neg c,qbj oo];rfl
theorem cfun:CFun:=by
 intro F s d
 refine cK (fR (F:=F) (args:=[.va (.str s),.va (.fn (.func 242) [])]) (out:=.ret (.va (.bool (s.any badC)))) (vs:=[.string ⟨s.toArray⟩,.func (.func 242) #[] #[]]) (Sx.enters_of func241 rfl dd) rfl (by
   rintro ρ a h
   match a,h with
   |[v,u],h=>rw[h.1,h.2.1];rfl) (.returned (.bool (s.any badC))) (fun ρ=>⟨_,rfl,rfl⟩) (fun C ρ w S=>by
   have h:=Any.strings_ContainsFunc_runes Tryz.laysGw17 242 #[] (enters_of func242 (by kernel_rfl) rfl) badR ⟨s.toArray⟩ w (ybi w);refine h.mono fun e f ⟨h1,b⟩=>⟨?_,b⟩
   rw[h1,Lib.idxFunc,pW s _ 0 (by show s.length<=0+s.toArray.size;simp),y8])) fun o c h=>⟨h.1,h.2⟩
theorem C9(p q:Addr)(w:World):
  CallsD prog 126 #[.pointer (some p),.pointer (some q)] .returning w fun e u' w'=>e=.returned (.tuple #[])/\u'=.returning/\w'=w:=by
 refine callsD_of_wpS func126 rfl fun c₀ cs hu=>?_
 simp only[Tryz.ntmps126,y9,qe,qu,Nat.reduceAdd,Nat.reduceSub,qac,qad,qal,qae,qv,yd];apply wpS_seq;apply wpS_region;simp[wpOpsS,go_sem,recoverD,hu,Exit.thenS];refine wpS_of_wp ?_
 go_wp2
 refine⟨rfl,.returning,by cases c₀;simp_all,_,results_none rfl _ _ _,rfl,rfl,rfl⟩
theorem as29(v:Value)(w:World):(Instr.typeAssert (.iface 35 v) 20 35 true).run prog w=.ok (.tuple #[v,.bool true]) w:=by kernel_rfl
set_option maxRecDepth 100000 in
theorem DW(p q:Addr)(n:Int)(w:World)(u v:Value)(hp:w.cell? p=some u)(fp:w.frozen? p=false)(hq:(w.setCell p (.string ⟨#[]⟩)).cell? q=some v)(fq:(w.setCell p (.string ⟨#[]⟩)).frozen? q=false):
  CallsD prog 126 #[.pointer (some p),.pointer (some q)] (.panicking [{ v:=.iface 35 (.int .i64 n),recovered:=false }]) w fun e u' w'=>e=.returned (.tuple #[])/\settle u'=.returning/\w'=(w.setCell p (.string ⟨#[]⟩)).setCell q (.int .i64 n):=by
 refine callsD_of_wpS func126 rfl fun c₀ cs hu=>?_
 simp only[Tryz.ntmps126,y9,qe,qu,Nat.reduceAdd,Nat.reduceSub,qac,qad,qal,qae,qv,yd];apply wpS_seq;apply wpS_region;simp[wpOpsS,go_sem,recoverD,hu,Exit.thenS];refine wpS_of_wp ?_;have has:=as29 (.int .i64 n) w;rw[World.frozen?_setCell]at fq
 go_wp2
 exact⟨rfl,_,rfl,_,results_none rfl _ _ _,rfl,by simp[settle],rfl⟩
theorem one_cell{C:Ctx}{ρ:Rho}{h:Hp}{nx:Nat}{w:World}{i t:Nat}{a:SA}(S:Sat C ρ h nx w)(d:lget h i=some (.one (.cells t [a]))):w.cell? ⟨ρ i 0,0,none⟩=some (a.den ρ)/\w.frozen? ⟨ρ i 0,0,none⟩=false:=by
 obtain⟨o,e,b⟩:=S.blk i _ d 0 rfl;have c:RowAt w (ρ i 0) t [a.den ρ]:=⟨o,e,b⟩
 exact⟨by rw[c.cell 0];rfl,c.free 0 ss⟩
theorem C8{h:Hp}{nx:Nat}{K:Hp->Nat->Prop}(i j:Nat)(a:K h nx):DefWP prog 126 [.ptr ⟨i,0,0,0,0⟩,.ptr ⟨j,0,0,0,0⟩] h nx none K:=by
 unfold DefWP;intro C ρ w S b;refine⟨Sx.enters_of func126 rfl dd,?_⟩;refine(C9 ⟨ρ i 0,0*0+0,none⟩ ⟨ρ j 0,0*0+0,none⟩ w).mono ?_;rintro e c d ⟨rfl,rfl,rfl⟩;exact⟨_,h,nx,ρ,rfl,rfl,a,S,fun _ _=>rfl,qi _⟩
theorem tj{h:Hp}{nx:Nat}{K:Hp->Nat->Prop}(i j:Nat)(s0:List UInt8)(e0:Int)(hi:lget h i=some (.one (.cells 9 [.str s0])))(hj:lget h j=some (.one (.cells 35 [.int .i64 e0])))(hij:¬i=j)
  (hs:g7 Θ 9 (.va (.ptr ⟨i,0,0,0,0⟩)) (.va (.str [])) h nx fun _ h1 _=>g7 Θ 35 (.va (.ptr ⟨j,0,0,0,0⟩)) (.va (.int .i64 70)) h1 nx fun _ h2 _=>K h2 nx):
  DefWP prog 126 [.ptr ⟨i,0,0,0,0⟩,.ptr ⟨j,0,0,0,0⟩] h nx (some perr) K:=by
 unfold DefWP;intro C ρ w S hb;refine⟨Sx.enters_of func126 rfl dd,?_⟩;obtain⟨p1,p2⟩:=one_cell S hi;obtain⟨q1,q2⟩:=one_cell S hj;have hne:ρ i 0≠ρ j 0:=fun e=>hij (S.inj i 0 j 0 ⟨_,hi,rfl⟩ ⟨_,hj,rfl⟩ e).1
 have q3:(w.setCell ⟨ρ i 0,0,none⟩ (.string ⟨#[]⟩)).cell? ⟨ρ j 0,0,none⟩=some (.int .i64 e0):=by
  rw[World.cell?_setCell_other _ _ _ _ (by simp)];exact q1
 have q4:(w.setCell ⟨ρ i 0,0,none⟩ (.string ⟨#[]⟩)).frozen? ⟨ρ j 0,0,none⟩=false:=by
  rw[World.frozen?_setCell];exact q2
 obtain⟨w1,h1,r1,k1,S1⟩:=jJ hΘ hs S (v:=.pointer (some ⟨ρ i 0,0*0+0,none⟩)) (u:=.string ⟨#[]⟩) rfl rfl trivial;obtain⟨w2,h2,r2,k2,S2⟩:=jJ hΘ k1 S1 (v:=.pointer (some ⟨ρ j 0,0*0+0,none⟩)) (u:=.int .i64 70) rfl rfl trivial
 have e1:(Instr.storeAt 9 (.pointer (some ⟨ρ i 0,0,none⟩)) (.string ⟨#[]⟩)).run prog w=.ok () (w.setCell ⟨ρ i 0,0,none⟩ (.string ⟨#[]⟩)):=by
  simp[go_sem,p1,p2]
 have e2:(Instr.storeAt 35 (.pointer (some ⟨ρ j 0,0,none⟩)) (.int .i64 70)).run prog (w.setCell ⟨ρ i 0,0,none⟩ (.string ⟨#[]⟩))=.ok () ((w.setCell ⟨ρ i 0,0,none⟩ (.string ⟨#[]⟩)).setCell ⟨ρ j 0,0,none⟩ (.int .i64 70)):=by
  simp[go_sem,q2,q3]
 have w1e:w.setCell ⟨ρ i 0,0,none⟩ (.string ⟨#[]⟩)=w1:=by have:=e1.symm.trans r1;cases this;rfl
 rw[w1e]at e2;have w2e:w1.setCell ⟨ρ j 0,0,none⟩ (.int .i64 70)=w2:=by have:=e2.symm.trans r2;cases this;rfl
 refine(DW ⟨ρ i 0,0*0+0,none⟩ ⟨ρ j 0,0*0+0,none⟩ 70 w _ _ p1 p2 q3 q4).mono ?_;rintro e u' w' ⟨rfl,hu,rfl⟩;refine⟨_,h2,nx,ρ,rfl,hu,k2,?_,fun _ _=>rfl,qi _⟩;show Sat C ρ h2 nx ((w.setCell ⟨ρ i 0,0,none⟩ (.string ⟨#[]⟩)).setCell ⟨ρ j 0,0,none⟩ (.int .i64 70));rw[w1e,w2e];exact S2
end Go.Proofs.YtfnkamphhpldcaaGreatDoor
namespace Go.Proofs.YtfnkamphhpldcaaGreatDoor
open Go Sx Tryz
def fZ(p:Int):List Int->List Int->Prop
 |_,[]=>True
 |acc,x::r=>((bnd p acc).1<=x/\x<=(bnd p acc).2)/\fZ p (acc++[x]) r
def lnOk(p:Int)(a:List Ln)(x:Ln):Prop:=
 if p=1 then x.2=[]/\x.1.length<=80/\x.1.any badC=false
 else x.1=[]/\x.2.length=cols p/\fZ p [] x.2/\(p≠2->∀y,a.getLast? =some y->cmpL (y.2.take 2) (x.2.take 2) < 0)
def lnsOk(p:Int):List Ln->List Ln->Prop
 |_,[]=>True
 |acc,x::r=>lnOk p acc x/\lnsOk p (acc++[x]) r
def VOK(p:Int)(v:Val):Prop:=
 v=loseV\/(v.lost=false/\
  if p=8 then v.lines=[]/\v.bits=[]/\(0<=v.w/\v.w<=64)/\(0<=v.h/\v.h<=64)
  else if 6<=p then v.lines=[]/\(0<=v.w/\v.w<=32)/\(min v.w 1<=v.h/\v.h<=min v.w 1*32)/\(if p=7 then(v.bits.length:Int)=v.w*v.h/\v.bits.all (fun b=>b==48||b==49)=true else v.bits=[])
  else v.w=0/\v.h=0/\v.bits=[]/\v.lines.length<=64/\lnsOk p [] v.lines)
theorem eh{s:List UInt8}{q b a:Int}:bZ s q b a=true↔(getI s q).2.2=0/\b<=(getI s q).1/\(getI s q).1<=a:=by
 unfold bZ;simp
theorem vJ{s:List UInt8}{p:Int}:∀(f:Nat) (acc:List Int) (q:Int) (n:List Int) (a:Int),numsS s p f acc q=some (n,a)->∃m,n=acc++m/\m.length=f/\fZ p acc m
 |0,acc,q,n,a,h=>by
  simp only[numsS,Option.some.injEq,Prod.mk.injEq]at h;exact⟨[],by simp[h.1],rfl,tv⟩
 |f+1,acc,q,n,a,h=>by
  rw[numsS]at h;split at h
  ·rename_i d;obtain⟨m,h1,b,c⟩:=vJ f _ _ _ _ h;exact⟨(getI s q).1::m,by rw[h1];simp,by rw[qe,b],(eh.1 d).2,c⟩
  ·cases h
theorem zk{s:List UInt8}{p:Int}{acc:List Ln}{q j:Int}{x:Ln}(h:lineS s p acc q=some (x,j)):lnOk p acc x:=by
 unfold lineS at h;unfold lnOk;split at h
 ·rename_i f;rw[if_pos f];split at h
  ·rename_i a;simp only[Option.some.injEq,Prod.mk.injEq]at h;obtain⟨rfl,_⟩:=h;exact⟨rfl,a.2.1,a.2.2⟩
  ·cases h
 ·rename_i f;rw[if_neg f];split at h
  ·cases h
  ·rename_i n k i;obtain⟨m,h1,c,d⟩:=vJ _ _ _ _ _ i;rw[qv]at h1;subst h1;split at h
   ·rename_i g;simp only[Option.some.injEq,Prod.mk.injEq]at h;obtain⟨rfl,_⟩:=h;exact⟨rfl,c,d,fun a=>absurd g a⟩
   ·split at h
    ·rename_i e;simp only[Option.some.injEq,Prod.mk.injEq]at h;obtain⟨rfl,_⟩:=h;exact⟨rfl,c,d,fun _ y b=>by rw[e]at b;cases b⟩
    ·rename_i x e;split at h
     ·rename_i a;simp only[Option.some.injEq,Prod.mk.injEq]at h;obtain⟨rfl,_⟩:=h;exact⟨rfl,c,d,fun _ y b=>by rw[e]at b;cases b;exact a⟩
     ·cases h
theorem un{s:List UInt8}{p:Int}:∀(f:Nat) (acc:List Ln) (q:Int) (l:List Ln) (a:Int),cP s p f acc q=some (l,a)->∃m,l=acc++m/\m.length=f/\lnsOk p acc m
 |0,acc,q,n,a,h=>by
  simp only[cP,Option.some.injEq,Prod.mk.injEq]at h;exact⟨[],by simp[h.1],rfl,tv⟩
 |f+1,acc,q,n,a,h=>by
  rw[cP]at h;split at h
  ·cases h
  ·rename_i x e d;obtain⟨m,h1,b,c⟩:=un f _ _ _ _ h;exact⟨x::m,by rw[h1];simp,by rw[qe,b],zk d,c⟩
theorem xD{p:Int}{s:List UInt8}{v:Val}(h:readS p s=some v):(1<=p/\p<=8)/\VOK p v:=by
 unfold readS at h;split at h
 ·cases h
 rename_i e;have e:1<=p/\p<=8:=by simpa using e
 refine⟨e,?_⟩;split at h
 ·cases h;exact .inl rfl
 right;split at h
 ·rename_i b;split at h
  ·rename_i a;cases h
   refine⟨rfl,?_⟩;rw[if_pos b];exact⟨rfl,rfl,(eh.1 a.1).2,(eh.1 a.2.1).2⟩
  ·cases h
 rename_i b;split at h
 ·rename_i c;dsimp only at h;split at h
  ·rename_i a;split at h
   ·rename_i d;split at h
    ·rename_i f;cases h
     refine⟨rfl,?_⟩;rw[if_neg b,if_pos c];refine⟨rfl,(eh.1 a.1).2,(eh.1 a.2).2,?_⟩;rw[if_pos d];exact⟨f.2.1,f.2.2.1⟩
    ·cases h
   ·rename_i d;split at h
    ·cases h
     refine⟨rfl,?_⟩;rw[if_neg b,if_pos c];refine⟨rfl,(eh.1 a.1).2,(eh.1 a.2).2,?_⟩;rw[if_neg d]
    ·cases h
  ·cases h
 ·rename_i c;split at h
  ·rename_i a;split at h
   ·cases h
   ·rename_i l q j;split at h
    ·cases h
     refine⟨rfl,?_⟩;rw[if_neg b,if_neg c];obtain⟨m,h1,g,i⟩:=un _ _ _ _ _ j;rw[qv]at h1;subst h1;have k:=(eh.1 a).2;exact⟨rfl,rfl,rfl,by rw[g];omega,i⟩
    ·cases h
  ·cases h
end Go.Proofs.YtfnkamphhpldcaaGreatDoor
namespace Go.Proofs.YtfnkamphhpldcaaGreatDoor
open Go Sx Tryz
set_option maxRecDepth 100000
theorem fH{p k n:Int}(d:1<=p/\p<=8)(h:bA p (k,n)=true):
  (k=1/\p=1/\n=0)\/(k=2/\p=1/\n=0)\/(k=3/\(p=3\/p=5)/\(n=10\/n=100\/n=1000))\/(k=4/\p=2/\(0<=n/\n<=6))\/(k=5/\(p=6\/p=7)/\n=0)\/(k=6/\n=0):=by
 have c:1<=k/\k<=6:=by
  unfold bA at h;simp only[qd,decide_eq_true_eq]at h;exact h.1
 have a:k=1\/k=2\/k=3\/k=4\/k=5\/k=6:=by omega
 have b:p=1\/p=2\/p=3\/p=4\/p=5\/p=6\/p=7\/p=8:=by omega
 rcases a with rfl | rfl | rfl | rfl | rfl | rfl<;>rcases b with rfl | rfl | rfl | rfl | rfl | rfl | rfl | rfl<;>simp[bA,props,numOk,idx]at h ⊢<;>omega
def foldL(x:Ln):Ln:=(Lib.toLowerA x.1,x.2)
def kV(x:Ln):Ln:=(spS x.1.length x.1,x.2)
def kK(n:Int)(x:Ln):Ln:=(x.1,rndN n x.2)
def limL(n:Int)(x:Ln):Ln:=(x.1,limN n x.2)
def halV(v:Val):Val:=⟨false,[],(v.w+1) / 2,(v.h+1) / 2,if v.bits=[]then []else halB v.w.toNat 0 v.bits (List.replicate ((v.w.toNat+1) / 2*((v.h.toNat+1) / 2)) 48)⟩
def stepS(s:Stp)(v:Val):Val:=
 if s.1=1 then{ v with lines:=v.lines.map foldL } else if s.1=2 then{ v with lines:=v.lines.map kV } else if s.1=3 then{ v with lines:=v.lines.map (kK s.2) }
 else if s.1=4 then{ v with lines:=v.lines.map (limL s.2) } else if s.1=5 then halV v else loseV
theorem iz{p:Int}:∀{acc l:List Ln},lnsOk p acc l->∀x∈l,∃b,lnOk p b x
 |_,[],_,x,hx=>absurd hx ss
 |acc,y::r,h,x,hx=>by
  rcases qh.1 hx with rfl | hx
  ·exact⟨acc,h.1⟩
  ·exact iz h.2 x hx
theorem jZ{p:Int}{v:Val}(h:VOK p v)(a:v.lost=false)(b:p<=5):v.w=0/\v.h=0/\v.bits=[]/\v.lines.length<=64/\lnsOk p [] v.lines:=by
 rcases h with rfl | ⟨_,h⟩
 ·cases a
 ·rw[if_neg oo,if_neg oo]at h;exact h
theorem ol{p:Int}{v:Val}(h:VOK p v)(a:v.lost=false)(c:p=6\/p=7):v.lines=[]/\(0<=v.w/\v.w<=32)/\(min v.w 1<=v.h/\v.h<=min v.w 1*32)/\(if p=7 then(v.bits.length:Int)=v.w*v.h/\v.bits.all (fun b=>b==48||b==49)=true else v.bits=[]):=by
 rcases h with rfl | ⟨_,h⟩
 ·cases a
 ·rw[if_neg oo,if_pos oo]at h;exact h
theorem CB{s:List UInt8}(h:s.any badC=false):∀b∈s,32<=b.toNat/\b.toNat<=126:=by
 intro b a;have h1:=qbp.1 h b a;simpa[badC]using h1
theorem AW(F:Fz)(g b:Nat)(w h:Int)(bits:List UInt8)(d:Bool)(a:Int)(c:Nat)(caps:Nat->Nat)(_:F b=some (eF g)):
  Ct prog 246 [.va (.ptr ⟨1,0,0,0,0⟩),.va (.int .i64 a),.va (.ptr (fp b))] F (valM ⟨d,[],w,h,bits⟩ c caps) 4 (stepV F ⟨d,[],w,h,bits⟩):=by
 refine ctS func246 ?_;conv=>whnf
 refine rounds hΘ 1 ?_;refine brd dd ?_;refine clean [] (.ret (.tup [])) F (valM ⟨d,[],w,h,bits⟩ c caps) 4 ⟨Fz.r F,rfl,rfl,rfl,c,caps,rfl⟩ (aP _) rfl rfl (by simp[Out.below,SV.below]) (iL _ _ _) ⟨Fz.r F,rfl,tv⟩
theorem lX(F:Fz)(g b:Nat)(f:Ln->Ln)(w h:Int)(bits:List UInt8)(d:Bool)(L:List Ln)(a:Int)(c:Nat)(caps:Nat->Nat)(i:F b=some (eF g))(k:L.length<=1000000)(j:∀x∈L,rQ g F c caps a f x):
  Ct prog 246 [.va (.ptr ⟨1,0,0,0,0⟩),.va (.int .i64 a),.va (.ptr (fp b))] F (valM ⟨d,L,w,h,bits⟩ c caps) 4 (stepV F ⟨d,L.map f,w,h,bits⟩):=by
 by_cases e:L=[]
 ·subst e;exact AW F g b w h bits d a c caps i
 ·exact AX F g b f w h bits d L a c caps i e k j
def doG(k:Int):Nat:=if k=5 then 194 else if k=6 then 195 else 246
def doC(b:Nat->Nat)(k:Int):List Pl:=if k=1 then [fp (b 6)]else if k=2 then [fp (b 7)]else if k=3 then [fp (b 8)]else if k=4 then [fp (b 9)]else []
theorem do_fn(F:Fz)(b:Nat->Nat)(J:KindsAt F b)(hM:MLF F)(p k n:Int)(v:Val)(s:1<=p/\p<=8)(Q:bA p (k,n)=true)(B:VOK p v)(o:v.lost=false)(c:Nat)(caps:Nat->Nat):
  Ct prog (doG k) ([.va (.ptr ⟨1,0,0,0,0⟩),.va (.int .i64 n)]++(doC b k).map fun p=>SV.va (.ptr p)) F (valM v c caps) 4 (stepV F (stepS (k,n) v)):=by
 have R:=fH s Q;obtain⟨D,L,w,h,bits⟩:=v;replace o:D=false:=o;subst o;rcases R with⟨rfl,rfl,rfl⟩ | ⟨rfl,rfl,rfl⟩ | ⟨rfl,s,hn⟩ | ⟨rfl,rfl,hn⟩ | ⟨rfl,s,rfl⟩ | ⟨rfl,rfl⟩
 ·obtain⟨_,_,_,f,q⟩:=jZ B rfl oo;replace f:L.length<=64:=f;refine lX F 188 (b 6) foldL w h bits false L 0 c caps J.h6 oo fun x u j i d=>?_
  obtain⟨bf,a⟩:=iz q x u;rw[lnOk,if_pos rfl]at a;obtain⟨t,m⟩:=x;exact yam lfun F j i c caps t m 0 d (by have Z:t.length<=80:=a.2.1;omega) (fun b g=>by have:=CB a.2.2 b g;omega)
 ·obtain⟨_,_,_,f,q⟩:=jZ B rfl oo;replace f:L.length<=64:=f;refine lX F 189 (b 7) kV w h bits false L 0 c caps J.h7 oo fun x u j i d=>?_
  obtain⟨bf,a⟩:=iz q x u;rw[lnOk,if_pos rfl]at a;obtain⟨t,m⟩:=x;exact Aa dfun afun F hM j i c caps t m 0 d (by have Z:t.length<=80:=a.2.1;omega)
 ·obtain⟨_,_,_,f,q⟩:=jZ B rfl oo;replace f:L.length<=64:=f;refine lX F 191 (b 8) (kK n) w h bits false L n c caps J.h8 oo fun x u j i d=>?_
  obtain⟨bf,a⟩:=iz q x u;rw[lnOk,if_neg oo]at a;obtain⟨t,m⟩:=x;obtain⟨_,E,G,_⟩:=a
  have K:m.length=3:=by
   rw[show cols p=3 by rcases s with rfl | rfl<;>rfl]at E;exact E
  match m,K,G,d with
  |[x,y,z],_,G,d=>
   have hz:-1000000000000<=z/\z<=1000000000000:=by
    have I:=G.2.2.1;rcases s with rfl | rfl
    ·have e:bnd 3 (([]++[x])++[y])=(-1000000,1000000):=rfl;rw[e]at I;dsimp only at I;omega
    ·have e:bnd 5 (([]++[x])++[y])=(-1000000000000,1000000000000):=rfl;rw[e]at I;exact I
   exact BP F j i c caps t x y z n [] d oo oo oo oo
 ·obtain⟨_,_,_,f,q⟩:=jZ B rfl oo;replace f:L.length<=64:=f;refine lX F 193 (b 9) (limL n) w h bits false L n c caps J.h9 oo fun x u j i d=>?_
  obtain⟨bf,a⟩:=iz q x u;rw[lnOk,if_neg oo]at a;obtain⟨t,m⟩:=x;obtain⟨_,E,G,_⟩:=a
  match m,(E:m.length=1),d with
  |[x],_,d=>exact Bo F j i c caps t x n [] d
 ·obtain⟨M,V,T,g⟩:=ol B rfl s;replace M:L=[]:=M;subst M;replace V:0<=w/\w<=32:=V;replace T:min w 1<=h/\h<=min w 1*32:=T;by_cases l:bits=[]
  ·subst l;exact CZ F w h 0 c caps oo oo
  ·have Y:p=7:=by
    rcases s with rfl | rfl
    ·exact absurd g l
    ·rfl
   rw[if_pos Y]at g;replace g:(bits.length:Int)=w*h/\_:=g;rcases bits with _ | ⟨X,br⟩
   ·exact absurd rfl l
   have U:0 < w/\0 < h:=by
    have A:(0:Int) < w*h:=by rw[<-g.1];simp only[qe];omega
    have h0:0<=h:=by omega
    by_cases S:w=0
    ·rw[S,Int.zero_mul]at A;omega
    ·by_cases O:h=0
     ·rw[O,Int.mul_zero]at A;omega
     ·omega
   obtain⟨W,rfl⟩:∃W:Nat,w=W:=⟨w.toNat,by omega⟩
   obtain⟨H,rfl⟩:∃H:Nat,h=H:=⟨h.toNat,by omega⟩
   have:=CY nfun F W H X br 0 c caps oo oo (by have:=g.1;rw[<-qb6]at this;omega);exact this
 ·exact ya3 F ⟨false,L,w,h,bits⟩ 0 c caps
end Go.Proofs.YtfnkamphhpldcaaGreatDoor
namespace Go.Proofs.YtfnkamphhpldcaaGreatDoor
open Go Sx Tryz
theorem getLast?_map'{α β:Type}(f:α->β)(l:List α):(l.map f).getLast? =l.getLast?.map f:=by
 simp
theorem vz{p:Int}{f:Ln->Ln}(a:∀acc x,lnOk p acc x->lnOk p (acc.map f) (f x)):∀(l acc:List Ln),lnsOk p acc l->lnsOk p (acc.map f) (l.map f)
 |[],_,_=>trivial
 |x::r,acc,h=>by
  refine⟨a _ _ h.1,?_⟩;have:=vz a r (acc++[x]) h.2;rw[qo]at this;exact this
theorem yde:∀b:UInt8,badC b=false->badC (Lib.lowerB b)=false:=by
 intro b;have:∀n:Fin 256,badC (UInt8.ofNat n.1)=false->badC (Lib.lowerB (UInt8.ofNat n.1))=false:=by decide+kernel
 have h:=this ⟨b.toNat,b.toNat_lt⟩;simpa using h
theorem Dj{s:List UInt8}(h:s.any badC=false):(Lib.toLowerA s).any badC=false:=by
 refine qbp.2 fun b d=>?_
 obtain⟨a,c,rfl⟩:=qz.1 d;rw[yde a (by simpa using qbp.1 h a c)];simp
theorem pu:∀{s:List UInt8} {b:UInt8},b∈repD s->b∈s
 |[],_,h=>h
 |[a],_,h=>h
 |a::c::r,b,h=>by
  rw[repD]at h;split at h
  ·rename_i d;simp only[qd,beq_iff_eq]at d;rcases qh.1 h with rfl | h
   ·rw[d.1];simp
   ·exact ym _ (ym _ (pu h))
  ·rcases qh.1 h with rfl | h
   ·simp
   ·exact ym _ (pu h)
theorem rz:∀{f:Nat} {s:List UInt8} {b:UInt8},b∈spS f s->b∈s
 |0,_,_,h=>h
 |f+1,s,b,h=>by
  rw[spS]at h;split at h
  ·exact pu (rz h)
  ·exact h
theorem sE:∀(f:Nat) (s:List UInt8),(spS f s).length<=s.length
 |0,_=>qi _
 |f+1,s=>by
  rw[spS];split
  ·exact q8 (sE f _) (mP s)
  ·exact qi _
variable {p:Int}
theorem yD(a:p=1)(acc:List Ln)(x:Ln)(h:lnOk p acc x):lnOk p (acc.map foldL) (foldL x):=by
 unfold lnOk at*;rw[if_pos a]at*;exact⟨h.1,by show(Lib.toLowerA x.1).length<=80;unfold Lib.toLowerA;rw[qa];exact h.2.1,Dj h.2.2⟩
theorem xQ(c:p=1)(acc:List Ln)(x:Ln)(h:lnOk p acc x):lnOk p (acc.map kV) (kV x):=by
 unfold lnOk at*;rw[if_pos c]at*;refine⟨h.1,q8 (sE _ _) h.2.1,qbp.2 fun b a=>?_⟩;exact qbp.1 h.2.2 b (rz a)
theorem pv(n:Int):∀l:List Int,(rndN n l).take 2=l.take 2
 |[]=>rfl
 |[_]=>rfl
 |[_,_]=>rfl
 |_::_::_::_=>rfl
theorem wG{z n:Int}(c:0 < n)(a:0<=z):z % n<=z:=by
 have h1:=Int.emod_add_mul_ediv z n;have b:0<=n*(z / n):=qcz oo (Int.ediv_nonneg a oo);omega
theorem rq{z n:Int}(c:0 < n){b:Int}(h:-b<=z/\z<=b):-b<=z - z.tmod n/\z - z.tmod n<=b:=by
 by_cases a:0<=z
 ·have h1:0<=z.tmod n:=qcs _ a;have d:z.tmod n<=z:=by rw[qaa a];exact wG c a
  omega
 ·have e:z.tmod n= -((-z).tmod n):=by rw[Int.neg_tmod];omega
  have h1:0<=(-z).tmod n:=qcs _ oo;have d:(-z).tmod n<= -z:=by rw[qaa oo];exact wG c oo
  omega
theorem three{α:Type}{l:List α}(h:l.length=3):∃a b c,l=[a,b,c]:=by
 match l,h with
 |[a,b,c],_=>exact⟨a,b,c,rfl⟩
theorem xF{n:Int}(k:p=3\/p=5)(j:0 < n)(acc:List Ln)(x:Ln)(h:lnOk p acc x):lnOk p (acc.map (kK n)) (kK n x):=by
 unfold lnOk at*;rw[if_neg oo]at*;obtain⟨h1,g,e,l⟩:=h;have d:x.2.length=3:=by rw[g];rcases k with rfl | rfl<;>rfl
 obtain⟨t,m⟩:=x;obtain⟨a,b,z,rfl⟩:=three d;refine⟨h1,g,⟨e.1,e.2.1,?_,tv⟩,fun h y c=>?_⟩
 ·have i:=e.2.2.1;rcases k with rfl | rfl
  ·exact rq j i
  ·exact rq j i
 ·rw[getLast?_map']at c;cases f:acc.getLast? with
  |none=>rw[f]at c;cases c
  |some y0=>
   rw[f]at c;cases c
   have:=l h y0 f;show cmpL ((rndN n y0.2).take 2) ((rndN n [a,b,z]).take 2) < 0;rw[pv,pv];exact this
theorem wB{n:Int}(f:p=2)(acc:List Ln)(x:Ln)(h:lnOk p acc x):lnOk p (acc.map (limL n)) (limL n x):=by
 subst f;unfold lnOk at*;rw[if_neg oo]at*;obtain⟨h1,d,b,g⟩:=h;obtain⟨t,m⟩:=x
 match m,(d:m.length=1),b with
 |[a],_,b=>
  refine⟨h1,rfl,⟨?_,tv⟩,fun h=>absurd rfl h⟩;have c:=b.1;have e:bnd 2 []=(0,7):=rfl;rw[e]at c ⊢;dsimp only at c ⊢;split<;>omega
theorem wR(w:Nat):∀(l:List UInt8) (k:Nat) (o:List UInt8),o.all (fun b=>b==48||b==49)=true->(halB w k l o).all (fun b=>b==48||b==49)=true
 |[],_,_,h=>h
 |b::r,k,o,h=>by
  rw[halB];refine wR w r (k+1) _ ?_;split
  ·refine qp.2 fun x a=>?_
   rcases qbz a with a | rfl
   ·exact qp.1 h x a
   ·rfl
  ·exact h
theorem yar{v:Val}(e:p=6\/p=7)(k:VOK p v)(i:v.lost=false):VOK p (halV v):=by
 obtain⟨n,q,o,a⟩:=ol k i e;right;refine⟨rfl,?_⟩;rw[if_neg oo,if_pos oo];refine⟨rfl,⟨by show 0<=(v.w+1) / 2;omega,by show(v.w+1) / 2<=32;omega⟩,⟨by show min ((v.w+1) / 2) 1<=(v.h+1) / 2;omega,by show(v.h+1) / 2<=min ((v.w+1) / 2) 1*32;omega⟩,?_⟩;rcases e with m | h7
 ·rw[if_neg oo]at a ⊢;show(if v.bits=[]then []else _)=[];rw[if_pos a]
 ·rw[if_pos h7]at a ⊢;show(((if v.bits=[]then([]:List UInt8)else halB v.w.toNat 0 v.bits (List.replicate ((v.w.toNat+1) / 2*((v.h.toNat+1) / 2)) 48)).length:Nat):Int)=(v.w+1) / 2*((v.h+1) / 2)/\(if v.bits=[]then([]:List UInt8)else halB v.w.toNat 0 v.bits (List.replicate ((v.w.toNat+1) / 2*((v.h.toNat+1) / 2)) 48)).all (fun b=>b==48||b==49)=true;split
  ·rename_i j;have f:=a.1;rw[j]at f;have d:v.w*v.h=0:=f.symm
   have l:v.w=0:=by
    rcases Int.mul_eq_zero.1 d with h | h
    ·exact h
    ·omega
   have c:(v.w+1) / 2=0:=by omega
   rw[c];simp
  ·refine⟨?_,wR _ _ _ _ ss⟩;rw[wS,y5];have c:(((v.w.toNat+1) / 2:Nat):Int)=(v.w+1) / 2:=by omega
   have g:(((v.h.toNat+1) / 2:Nat):Int)=(v.h+1) / 2:=by omega
   rw[qb6,c,g]
theorem Al{s:Stp}{v:Val}(o:1<=p/\p<=8)(b:bA p s=true)(c:VOK p v)(a:v.lost=false):VOK p (stepS s v):=by
 obtain⟨k,n⟩:=s
 have lines:∀f:Ln->Ln,p<=5->(∀acc x,lnOk p acc x->lnOk p (acc.map f) (f x))->VOK p { v with lines:=v.lines.map f }:=fun f i l=>by
  obtain⟨h1,d,e,g,j⟩:=jZ c a i;right;refine⟨a,?_⟩;rw[if_neg oo,if_neg oo];exact⟨h1,d,e,by show(v.lines.map f).length<=64;rw[qa];exact g,vz l v.lines [] j⟩
 rcases fH o b with⟨rfl,h,rfl⟩ | ⟨rfl,h,rfl⟩ | ⟨rfl,h,m⟩ | ⟨rfl,h,m⟩ | ⟨rfl,h,rfl⟩ | ⟨rfl,rfl⟩
 ·exact lines _ oo (yD h)
 ·exact lines _ oo (xQ h)
 ·exact lines _ oo (xF h oo)
 ·exact lines _ oo (wB h)
 ·exact yar h c a
 ·exact .inl rfl
def runS(l:List Stp)(v:Val):Val:=l.foldl (fun v s=>if v.lost=true then v else stepS s v) v
theorem mo{p:Int}(a:1<=p/\p<=8):∀(l:List Stp) (v:Val),(∀s∈l,bA p s=true)->VOK p v->VOK p (runS l v)
 |[],_,_,h=>h
 |s::r,v,hok,h=>by
  refine mo a r _ (fun x c=>hok x (by simp[c])) ?_;show VOK p (if v.lost=true then v else stepS s v);split
  ·exact h
  ·rename_i b;exact Al a (hok s ss) h (by simpa using b)
theorem yC{v:Val}(_:1<=p/\p<=8)(a:VOK p v):Fits v:=by
 rcases a with rfl | ⟨g,a⟩
 ·exact⟨by show 0<=1000;omega,fun x c=>absurd c (by simp[loseV]),by show 0<=70000;omega⟩
 ·split at a
  ·exact⟨by rw[a.1];simp,fun x c=>by rw[a.1]at c;simp at c,by rw[a.2.1];simp⟩
  ·split at a
   ·refine⟨by rw[a.1];simp,fun x c=>by rw[a.1]at c;simp at c,?_⟩;have e:=a.2.2.2;split at e
    ·have f:v.w*v.h<=32*32:=by
      have:v.w*v.h<=32*v.h:=qcj a.2.1.2 oo;omega
     omega
    ·rw[e];simp
   ·refine⟨by omega,fun x c=>?_,by rw[a.2.2.1];simp⟩;obtain⟨b,d⟩:=iz a.2.2.2.2 x c;unfold lnOk at d;split at d
    ·exact⟨by omega,by rw[d.1];simp⟩
    ·refine⟨by rw[d.1];simp,?_⟩;rw[d.2.1];unfold cols;split<;>(try split)<;>(try split)<;>(try split)<;>omega
def dp(p:Int)(l:List Stp)(s:List UInt8):List UInt8×Int:=
 if aN p l=true then match readS p s with
  |none=>([],70)
  |some v=>(bI p (runS l v),0)
 else([],70)
end Go.Proofs.YtfnkamphhpldcaaGreatDoor
namespace Sx
open Go
def dB(n:Nat)(d:List (Dk×List SA)):Bool:=d.all fun x=>x.2.all fun a=>a.bB n
variable {d:List (Dk×List SA)}
theorem dB_ok{n:Nat}(h:dB n d=true):∀x∈d,∀a∈x.2,a.below n:=fun x c a b=>
 SA.bB_ok (qp.1 (qp.1 h x c) a b)
theorem leId{T:List (List (Nat×SV))}{upd jl:List (Nat×SV)}{H:Hp}{hup:List (Nat×Ent)}{n0 nt N0 N:Nat}(s:List (Nat×Mv))(j:WfH H N0)(k:WfT T N0)
  (a:(ckI s upd jl hup n0 nt N0 N&&dB N0 d)=true)(n:bH N hup)(m:leT s T upd)(l:leH s H hup):Le ⟨T,H,N0,n0,nt,d⟩ ⟨upd::jl::T,hup::H,N,n0,nt,d⟩:=by
 simp only[ckI,qd]at a;obtain⟨⟨⟨⟨⟨⟨b,c⟩,e⟩,f⟩,g⟩,h⟩,i⟩:=a;exact pY N s j k f e (dB_ok i) b c h (bT_of g) n m l
theorem leRd{T:List (List (Nat×SV))}{b upd jl:List (Nat×SV)}{H:Hp}{a hup:List (Nat×Ent)}{nx1 n0 nt N0 N:Nat}(s:List (Nat×Mv))(n:WfH H N0)(o:WfT T N0)
  (c:(ckI s upd jl hup n0 nt N0 N&&(b.all fun p=>(aget upd p.1).isSome||(aget jl p.1).isSome)&&(a.all fun p=>(aget hup p.1).isSome||Nat.ble N0 p.1)&&dB N0 d)=true)
  (w:bH N hup)(u:leT s (b::jl::T) upd)(q:leH s (a::H) hup):Le ⟨b::jl::T,a::H,nx1,n0,nt,d⟩ ⟨upd::jl::T,hup::H,N,n0,nt,d⟩:=by
 simp only[ckI,qd]at c;obtain⟨⟨⟨⟨⟨⟨⟨⟨e,f⟩,g⟩,h⟩,i⟩,j⟩,k⟩,l⟩,m⟩:=c;exact pb N0 N s n o h g (dB_ok m) e f k l j (bT_of i) w u q
end Sx
namespace Go.Proofs.YtfnkamphhpldcaaGreatDoor
open Go Sx Tryz
set_option maxRecDepth 100000
def valN(v:Val)(c:Nat)(caps:Nat->Nat):List (Nat×Ent):=[(1,valE v 2 c),(2,bG 3 caps c v.lines),(3,famE caps v.lines)]
theorem rL(v:Val)(c:Nat)(caps:Nat->Nat):bH 4 (valN v c caps):=⟨gF oo _,c8 oo _ _ _,c9 _ _ _,tv⟩
theorem rn(e:Ent):e.ren (sig [])=e:=by
 have h:∀a:SA,a.ren (sig [])=a:=fun a=>SA.ren_id (.inr fun _ _=>rfl) (fun _=>rfl)
 have c:∀b:SB,b.ren (sig [])=b:=fun b=>by
  cases b with
  |cells t l=>simp[SB.ren,ft fun a _=>h a]
  |arr t sz L room=>
   simp only[SB.ren];congr 1;exact ft fun x _=>ft fun a _=>h a
  |obj o=>rfl
 cases e<;>simp[Ent.ren,c]
theorem vW(v:Val)(c:Nat):subE (some (valE v 2 c)) ((valE v 2 c).ren (sig [])):=by
 rw[rn];exact rfl
variable {caps:Nat->Nat}
theorem ydu{C:Ctx}{ρ:Rho}{F:Fz}{v:Val}{c:Nat}{w:World}(S:Sat C ρ [(0,.frz F)::valM v c caps] 4 w):Sat C ρ [(0,.frz F)::valN v c caps] 4 w:=by
 obtain⟨a,L,d,h,bits⟩:=v;cases L with
 |cons x r=>exact S
 |nil=>exact pQ (s:=[]) S (N0:=4) (N:=4) rfl S.n0 (qi _) ⟨tv,rL _ _ _⟩ ⟨Fz.r F,vW _ _,rfl,tv,tv⟩ (fun i b=>match i,b with | 0,_=>rfl | 1,_=>rfl | 2,_=>rfl | 3,_=>rfl)
theorem ydv{C:Ctx}{ρ:Rho}{F:Fz}{v:Val}{c:Nat}{w:World}(S:Sat C ρ [(0,.frz F)::valN v c caps] 4 w):Sat C ρ [(0,.frz F)::valM v c caps] 4 w:=by
 obtain⟨a,L,d,h,bits⟩:=v;cases L with
 |cons x r=>exact S
 |nil=>exact pQ (s:=[]) S (N0:=4) (N:=4) rfl S.n0 (qi _) ⟨tv,iL _ _ _⟩ ⟨Fz.r F,vW _ _,tv⟩ (fun i b=>match i,b with | 0,_=>rfl | 1,_=>rfl | 2,_=>rfl | 3,_=>rfl)
def stepN(F:Fz)(v:Val):Out->Fz->List (Nat×Ent)->Nat->Prop:=fun o a b n0=>a=F/\n0=4/\o=.ret (.tup [])/\∃c caps,b=valN v c caps
theorem Cu{f:FuncId}{args:List SV}{F:Fz}{v l:Val}{c:Nat}(h:Ct prog f args F (valM v c caps) 4 (stepV F l)):Ct prog f args F (valN v c caps) 4 (stepN F l):=by
 unfold Ct za6 at*;intro C ρ w vs S A q;obtain⟨u,s⟩:=h C ρ w vs (ydv S) A q;refine⟨u,s.mono ?_⟩;rintro e Q ⟨out,p,i,K,x,b⟩;refine⟨out,p,i,K,?_,b⟩;unfold Cln at*;intro m k j e' y o g d;obtain⟨a,n,M,n0,L,⟨B,D,rfl,E,c',caps',rfl⟩,G,I,J,O⟩:=x m k j e' y o g d;exact⟨a,n,_,4,L,⟨B,D,rfl,E,c',caps',rfl⟩,G,I,ydu J,rfl⟩
