import Derived.Test.YtfnkamphhpldcaaGreatDoorK32
import Derived.Test.YtfnkamphhpldcaaGreatDoorK24
set_option maxHeartbeats 64000000
namespace Go.Proofs.YtfnkamphhpldcaaGreatDoor
open Go Sx
set_option maxRecDepth 100000
def keepQ (b:Bool) (c:Cel):Bool:=c.sum == b
theorem zn5 {α:Type} (q:α → Bool):∀ (l:List α) (n:Nat),(idxG q l n = -1 ∧ l.filter q = l) ∨ ∃ i x,i < l.length ∧ idxG q l n = ((n + i:Nat):Int) ∧ (l.take i).filter q = l.take i ∧ l[i]? = some x ∧ q x = false
 |[],n=>.inl ⟨rfl,rfl⟩
 |x :: r,n=>by
  rw [idxG]
  split
  ·rename_i h
   exact .inr ⟨0,x,by simp,by simp,by simp,rfl,h⟩
  ·rename_i h
   have hq:q x = true:=by simpa using h
   rcases zn5 q r (n + 1) with ⟨h1,h2⟩ | ⟨i,y,h1,h2,h3,h4,h5⟩
   ·exact .inl ⟨h1,by simp [hq,h2]⟩
   ·exact .inr ⟨i + 1,y,by simp [h1],by rw [h2]; congr 1; omega,by simp [hq,h3],by simpa using h4,h5⟩
theorem zns (F:Fz) (x:Cel) (b:Bool) (bc:Nat) (hB:F bc = some (.cells 4 [.lit b])):Fo Tryz.prog F 225 [.agg (encK x),.va (.ptr (fp bc))] (fun o F'=>o = .ret (.va (.bool (!keepQ b x))) ∧ F' = F):=by
 obtain ⟨row,col,sum,value,top,left⟩:=x
 have fin:∀ (z:Bool) (a:SA) (h:Hp) (nx:Nat),(!keepQ b ⟨row,col,sum,value,top,left⟩) = z → atomE (.bool z) (a.ren (resP h)) → lget h 0 = some (.frz F) → Cln 1 (FoK F fun o F'=>o = .ret (.va (.bool (!keepQ b ⟨row,col,sum,value,top,left⟩))) ∧ F' = F) (.ret (.va a)) h nx:=by
  intro z a h nx hz ha h0
  subst hz
  exact endPu h0 (Fz.r F) ha rfl
 have hq:∀ z,keepQ b ⟨row,col,sum,value,top,left⟩ = z → keepQ b ⟨row,col,sum,value,top,left⟩ = (sum == b):=fun _ _=>rfl
 refine fo_of hΘ Tryz.func225 rfl (by decide) _ _ rfl rfl rfl ?_;conv=>whnf
 refine ⟨_,hB,?_⟩;conv=>whnf
 exact fin (sum != b) _ _ _ (by rw [hq _ rfl]; cases sum<;>cases b<;>rfl) rfl rfl
theorem zwo (F:Fz) (sa:SA) (l:List Cel) (b:Bool) (bc:Nat) (ha:Sl F 151 6 encK sa l) (hl:l.length < 1000000) (hB:F bc = some (.cells 4 [.lit b])) :
  Fo Tryz.prog F 220 [.va sa,.va (.fn (.func 225) [fp bc])] (fun o F'=>o = .ret (.va (.int .i64 (idxG (keepQ b) l 0))) ∧ F' = F):=by
 have fin:∀ (x:Int) (h:Hp) (nx:Nat),idxG (keepQ b) l 0 = x → lget h 0 = some (.frz F) →
   Cln 1 (FoK F fun o F'=>o = .ret (.va (.int .i64 (idxG (keepQ b) l 0))) ∧ F' = F) (.ret (.va (.int .i64 x))) h nx:=by
  intro x h nx hv h0
  exact endPu h0 (Fz.r F) (oi hv) rfl
 obtain ⟨han,hab,hae,hac,haL,har,rfl,ha1,ha2,ha3,ha4⟩:=ha
 refine fo_of hΘ Tryz.func220 rfl (by decide) _ _ rfl rfl rfl ?_;conv=>whnf
 refine zan hΘ (X:={ k:Nat // k ≤ l.length ∧ idxG (keepQ b) l 0 = idxG (keepQ b) (l.drop k) k }) (fun k=>[(8,.va (.int .i64 k.1))]) [4,5,9,10,11,12,13,14,15,16,17,18] (fz fun _=>F) 1 (fun k=>l.length - k.1) ⟨0,by simp⟩
  (fun hH hT=>le0 hH hT rfl (Fz.r F) rfl ⟨rfl,tv⟩) ?_
 rintro ⟨k,hk,hp⟩ hH hT
 replace hk:k ≤ l.length:=hk
 replace hp:idxG (keepQ b) l 0 = idxG (keepQ b) (l.drop k) k:=hp
 by_cases g:k < l.length
 ·have hlt:(k:Int) < (l.length:Nat):=by omega
  have hidx:0 ≤ (k:Int) ∧ (k:Int) < (l.length:Nat):=by omega
  have hex:∃ x,l[k] = x:=⟨_,rfl⟩
  obtain ⟨x,hx0⟩:=hex
  have hat:haL[hae + (k:Int).toNat]? = some (encK x):=by rw [← hx0]; exact Sl.at ha4 g
  have hcall:=zns F x b bc hB
  rw [zje _ l k g,hx0] at hp
  have hk1:k + 1 ≤ l.length:=g
  have hdec:l.length - (k + 1) < l.length - k:=by omega
  have hk62:k < 4611686018427387904:=by omega
  have hqx:∃ b2,keepQ b x = b2:=⟨_,rfl⟩
  obtain ⟨b2,hqx⟩:=hqx
  rw [hqx] at hp hcall
  clear hx0;conv=>whnf
  refine bri hlt ?_;conv=>whnf
  refine ⟨Sl.lt ha1 g,hidx,?_⟩;conv=>whnf
  refine ⟨_,ha2 (Sl.lt ha1 g),?_⟩;conv=>whnf
  refine ⟨_,hat,?_⟩;conv=>whnf
  refine usePu hcall rfl (zaa _) rfl ?_
  rcases b2 with _ | _
  ·conv=>whnf
   refine br (fun _=>?_) (fun g2=>absurd g2 (by decide));conv=>whnf
   exact fin _ _ _ (hp.trans (if_pos rfl)) rfl
  ·conv=>whnf
   refine br (fun g2=>absurd g2 (by decide)) (fun _=>?_)
   rw [if_neg (by decide)] at hp
   conv=>whnf
   exact ⟨⟨k + 1,hk1,hp⟩,hdec,lr0 hH hT rfl (Fz.r F) rfl ⟨cnt hk62,tv⟩⟩
 ·have hge:¬ (k:Int) < (l.length:Nat):=by omega
  rw [jq (by omega)] at hp
  conv=>whnf
  refine brj hge ?_;conv=>whnf
  exact fin _ _ _ hp rfl
end Go.Proofs.YtfnkamphhpldcaaGreatDoor
namespace Go.Proofs.YtfnkamphhpldcaaGreatDoor
open Go Sx
def zcv (b:Bool) (K:List Cel):List UInt8:=zae [((K.filter (keepQ b)).length:Int)] ++ ((K.filter (keepQ b)).map fun c=>zae (if b = true then [c.row,c.col,c.top,c.left] else [c.row,c.col,c.value])).flatten
def zgm (p:Int) (d:Dc):List Ln:=
 if p = 1 then d.lines.map fun l=>(l.1,[])
 else if p = 2 then d.lines.map fun l=>([],[l.2])
 else if p = 3 then (d.cells.filter (keepQ false)).map fun c=>([],[c.row,c.col,c.value])
 else if p = 4 then (d.cells.filter (keepQ true)).map fun c=>([],[c.row,c.col,c.top,c.left])
 else (d.cells.zip (valsF d.cells)).map fun x=>([],[x.1.row,x.1.col,x.2])
def zf0 (p:Int) (d:Dc):Val:=
 if p = 8 then ⟨false,[],d.lines.length,d.cells.length,[]⟩
 else if p = 7 then ⟨false,[],d.w,hgt d.w d.bits,d.bits⟩
 else if p = 6 then ⟨false,[],d.w,hgt d.w d.bits,[]⟩
 else ⟨false,zgm p d,0,0,[]⟩
def propB (p:Int) (d:Dc):List UInt8:=
 if p = 1 then ptext d.lines else if p = 2 then pmot d.lines else if p = 3 then zcv false d.cells else if p = 4 then zcv true d.cells
 else if p = 5 then pvals d.cells else if p = 6 then zae [d.w,hgt d.w d.bits] else if p = 7 then zae [d.w,hgt d.w d.bits] ++ (putSR d.bits).1
 else zae [(d.lines.length:Int),(d.cells.length:Int)]
theorem inRW {n lo hi:Int}:inR n lo hi = true ↔ lo ≤ n ∧ n ≤ hi:=by unfold inR; simp
theorem zhq (p:Int) (hp:p ≠ 1) (l:List Int):lineW p ([],l) = zae l:=by rw [lineW,if_neg hp]; rfl
theorem zw1 (s:List UInt8):lineW 1 (s,[]) = (putSR s).1:=by rw [lineW,if_pos rfl]; simp [zae]
theorem zif (K:List Cel):(K.zip (valsF K)).length = K.length:=by rw [qa1,zhx]; omega
theorem zrz {p:Int} (hp:1 ≤ p ∧ p ≤ 8) (d:Dc):propB p d = zbh p (zf0 p d):=by
 have h8:p = 1 ∨ p = 2 ∨ p = 3 ∨ p = 4 ∨ p = 5 ∨ p = 6 ∨ p = 7 ∨ p = 8:=by omega
 rcases h8 with rfl | rfl | rfl | rfl | rfl | rfl | rfl | rfl
 ·simp only [propB,zf0,zgm,zbh,if_true,if_false,jm,ptext,qb,yd,show ¬ (6:Int) ≤ 1 by omega,show ¬ (1:Int) = 8 by omega,show ¬ (1:Int) = 7 by omega,show ¬ (1:Int) = 6 by omega]
  simp only [Function.comp_def,zw1]
 ·simp only [propB,zf0,zgm,zbh,if_true,if_false,jm,pmot,qb,yd,show ¬ (6:Int) ≤ 2 by omega,show ¬ (2:Int) = 8 by omega,show ¬ (2:Int) = 7 by omega,show ¬ (2:Int) = 6 by omega,show ¬ (2:Int) = 1 by omega]
  simp only [Function.comp_def,zhq 2 (by omega)]
 ·simp only [propB,zf0,zgm,zbh,if_true,if_false,jm,zcv,qb,yd,show ¬ (6:Int) ≤ 3 by omega,show ¬ (3:Int) = 8 by omega,show ¬ (3:Int) = 7 by omega,show ¬ (3:Int) = 6 by omega,show ¬ (3:Int) = 1 by omega,show ¬ (3:Int) = 2 by omega]
  simp only [Function.comp_def,zhq 3 (by omega)]
 ·simp only [propB,zf0,zgm,zbh,if_true,if_false,jm,zcv,qb,yd,show ¬ (6:Int) ≤ 4 by omega,show ¬ (4:Int) = 8 by omega,show ¬ (4:Int) = 7 by omega,show ¬ (4:Int) = 6 by omega,show ¬ (4:Int) = 1 by omega,show ¬ (4:Int) = 2 by omega,show ¬ (4:Int) = 3 by omega]
  simp only [Function.comp_def,zhq 4 (by omega)]
 ·simp only [propB,zf0,zgm,zbh,if_true,if_false,jm,pvals,qb,yd,show ¬ (6:Int) ≤ 5 by omega,show ¬ (5:Int) = 8 by omega,show ¬ (5:Int) = 7 by omega,show ¬ (5:Int) = 6 by omega,show ¬ (5:Int) = 1 by omega,show ¬ (5:Int) = 2 by omega,show ¬ (5:Int) = 3 by omega,show ¬ (5:Int) = 4 by omega,zif]
  simp only [Function.comp_def,zhq 5 (by omega)]
 ·simp [propB,zf0,zbh]
 ·simp [propB,zf0,zbh]
 ·simp [propB,zf0,zbh]
theorem zfe {α:Type} {p:Int} {f:α → Ln}:∀ (l acc:List α),(∀ x ∈ l,if p = 1 then (f x).2 = [] ∧ (f x).1.length ≤ 80 ∧ (f x).1.any badC = false else (f x).1 = [] ∧ (f x).2.length = cols p ∧ zk7 p [] (f x).2) →
  (p ≠ 1 → p ≠ 2 → (acc ++ l).Pairwise fun a b=>cmpL ((f a).2.take 2) ((f b).2.take 2) < 0) → lnsOk p (acc.map f) (l.map f)
 |[],acc,_,_=>trivial
 |x :: r,acc,h,hp=>by
  refine ⟨?_,?_⟩
  ·have hx:=h x (by simp)
   unfold lnOk
   by_cases h1:p = 1
   ·rw [if_pos h1] at hx ⊢; exact hx
   ·rw [if_neg h1] at hx ⊢
    refine ⟨hx.1,hx.2.1,hx.2.2,fun h2 y hy=>?_⟩
    rw [List.getLast?_map] at hy
    obtain ⟨a,ha,rfl⟩:=y8.1 hy
    have hpw:=hp h1 h2
    rw [List.pairwise_append] at hpw
    exact hpw.2.2 a (List.mem_of_getLast? ha) x (by simp)
  ·have:=zfe (p:=p) (f:=f) r (acc ++ [x]) (fun y hy=>h y (by simp [hy])) (by rw [qk]; exact hp)
   rw [q5] at this
   exact this
theorem zws {a b c:Cel} (h1:ltC a b = true) (h2:ltC b c = true):ltC a c = true:=by
 unfold ltC at *
 simp only [y6,qd,decide_eq_true_eq] at *
 omega
theorem zuq:∀ l:List Cel,ascF l = true → l.Pairwise fun a b=>ltC a b = true
 |[],_=>.nil
 |[x],_=>by simp
 |x :: y :: r,h=>by
  have h:(ltC x y && ascF (y :: r)) = true:=h
  rw [qd] at h
  have ih:=zuq (y :: r) h.2
  refine List.Pairwise.cons (fun z hz=>?_) ih
  rcases qj.1 hz with rfl | hz
  ·exact h.1
  ·exact zws h.1 (List.rel_of_pairwise_cons ih hz)
theorem zp0 {a b:Cel} (h:ltC a b = true):cmpL [a.row,a.col] [b.row,b.col] < 0:=by
 unfold ltC at h
 simp only [y6,qd,decide_eq_true_eq] at h
 have e:∀ x y:Int,x < y → cmpI x y = -1:=fun x y h=>by unfold cmpI; rw [if_pos h]
 have e0:∀ x:Int,cmpI x x = 0:=fun x=>by unfold cmpI; simp
 rcases h with h | ⟨h1,h2⟩
 ·simp [cmpL,e _ _ h]
 ·simp [cmpL,h1,e0,e _ _ h2]
theorem zvs (n:Int):-1000000000000 ≤ zd5 n ∧ zd5 n ≤ 1000000000000:=by unfold zd5; split<;>split at *<;>omega
theorem zsj:∀ (l d:List Cel) (o:List Int),(∀ n ∈ o,-1000000000000 ≤ n ∧ n ≤ 1000000000000) → ∀ n ∈ valsA l d o,-1000000000000 ≤ n ∧ n ≤ 1000000000000
 |[],d,o,h=>h
 |c :: r,d,o,h=>by
  rw [valsA]
  refine zsj r _ _ fun n hn=>?_
  rcases yl.1 hn with hn | hn
  ·exact h n hn
  ·rw [qy.1 hn]; exact zvs _
structure DocOk (d:Dc):Prop where
 lines:d.lines.length ≤ 64
 cells:d.cells.length ≤ 64
 asc:ascF d.cells = true
 ln:∀ x ∈ d.lines,dlnOk x = true
 cel:∀ x ∈ d.cells,celOk x = true
 ras:rasOk d.w d.bits = true
theorem zcn {d:Dc} (h:docOk d = true):DocOk d:=by
 unfold docOk at h
 simp only [qd,decide_eq_true_eq,qo] at h
 exact ⟨h.1.1.1.1.1,h.1.1.1.1.2,h.1.1.1.2,h.1.1.2,h.1.2,h.2⟩
theorem zjk {w:Int} {s:List UInt8} (h:rasOk w s = true):(0 ≤ w ∧ w ≤ 32) ∧ s.all bitK = true ∧ (min w 1 ≤ hgt w s ∧ hgt w s ≤ min w 1 * 32) ∧ (s.length:Int) = w * hgt w s:=by
 unfold rasOk at h
 simp only [qd,y6,decide_eq_true_eq,inRW,beq_iff_eq] at h
 obtain ⟨⟨h1,h2⟩,h3⟩:=h
 refine ⟨h1,h2,?_⟩
 rcases h3 with ⟨rfl,rfl⟩ | ⟨⟨h4,h5⟩,h6⟩
 ·have e:hgt 0 [] = 0:=by unfold hgt; rw [if_pos (by omega)]
  rw [e]
  exact ⟨by decide,by simp⟩
 ·have e:min w 1 = 1:=by omega
  rw [e]
  exact ⟨⟨h6.1,by omega⟩,h5⟩
theorem zoc {p:Int} (hp:1 ≤ p ∧ p ≤ 8) {d:Dc} (hd:docOk d = true):VOK p (zf0 p d):=by
 obtain ⟨hl,hc,ha,hln,hcel,hras⟩:=zcn hd
 obtain ⟨r1,r2,r3,r4⟩:=zjk hras
 have hpw:=zuq _ ha
 have h8:p = 1 ∨ p = 2 ∨ p = 3 ∨ p = 4 ∨ p = 5 ∨ p = 6 ∨ p = 7 ∨ p = 8:=by omega
 rcases h8 with rfl | rfl | rfl | rfl | rfl | rfl | rfl | rfl
 ·refine .inr ⟨rfl,?_⟩
  refine ⟨rfl,rfl,rfl,by show (d.lines.map _).length ≤ 64; rw [qb]; exact hl,?_⟩
  refine zfe d.lines [] (fun x hx=>?_) (fun h=>absurd rfl h)
  have:=hln x hx
  unfold dlnOk at this
  simp only [qd,decide_eq_true_eq,qar] at this
  rw [if_pos rfl]
  exact ⟨rfl,this.1.1,this.1.2⟩
 ·refine .inr ⟨rfl,?_⟩
  refine ⟨rfl,rfl,rfl,by show (d.lines.map _).length ≤ 64; rw [qb]; exact hl,?_⟩
  refine zfe d.lines [] (fun x hx=>?_) (fun _ h=>absurd rfl h)
  have:=hln x hx
  unfold dlnOk at this
  simp only [qd,inRW] at this
  rw [if_neg (by omega)]
  exact ⟨rfl,rfl,this.2,tv⟩
 ·have hfl:(d.cells.filter (keepQ false)).length ≤ 64:=jk (qaa _ _) hc
  refine .inr ⟨rfl,?_⟩
  refine ⟨rfl,rfl,rfl,by show ((d.cells.filter (keepQ false)).map _).length ≤ 64; rw [qb]; exact hfl,?_⟩
  refine zfe (d.cells.filter (keepQ false)) [] (fun x hx=>?_) (fun _ _=>(hpw.filter _).imp fun h=>zp0 h)
  obtain ⟨hx1,hx2⟩:=List.mem_filter.1 hx
  have:=hcel x hx1
  have hs:x.sum = false:=by simpa [keepQ] using hx2
  unfold celOk at this
  rw [hs] at this
  simp only [qd,inRW,jm,if_false,decide_eq_true_eq] at this
  rw [if_neg (by omega)]
  exact ⟨rfl,rfl,this.1.1,this.1.2,this.2.1.1,tv⟩
 ·have hfl:(d.cells.filter (keepQ true)).length ≤ 64:=jk (qaa _ _) hc
  refine .inr ⟨rfl,?_⟩
  refine ⟨rfl,rfl,rfl,by show ((d.cells.filter (keepQ true)).map _).length ≤ 64; rw [qb]; exact hfl,?_⟩
  refine zfe (d.cells.filter (keepQ true)) [] (fun x hx=>?_) (fun _ _=>(hpw.filter _).imp fun h=>zp0 h)
  obtain ⟨hx1,hx2⟩:=List.mem_filter.1 hx
  have:=hcel x hx1
  have hs:x.sum = true:=by simpa [keepQ] using hx2
  unfold celOk at this
  rw [hs] at this
  simp only [qd,inRW,if_true,decide_eq_true_eq] at this
  rw [if_neg (by omega)]
  exact ⟨rfl,rfl,this.1.1,this.1.2,this.2.1.2,this.2.2,tv⟩
 ·refine .inr ⟨rfl,?_⟩
  refine ⟨rfl,rfl,rfl,by show ((d.cells.zip (valsF d.cells)).map _).length ≤ 64; rw [qb,zif]; exact hc,?_⟩
  refine zfe (d.cells.zip (valsF d.cells)) [] (fun x hx=>?_) (fun _ _=>?_)
  ·obtain ⟨c,v⟩:=x
   obtain ⟨hx1,hx2⟩:=List.of_mem_zip hx
   have:=hcel c hx1
   unfold celOk at this
   simp only [qd,inRW] at this
   rw [if_neg (by omega)]
   exact ⟨rfl,rfl,this.1.1,this.1.2,zsj _ _ _ (by simp) v hx2,tv⟩
  ·have h1:((d.cells.zip (valsF d.cells)).map (·.1)).Pairwise fun a b=>ltC a b = true:=by
    rw [List.map_fst_zip (by rw [zhx]; exact qf _)]; exact hpw
   rw [List.pairwise_map] at h1
   exact h1.imp fun h=>zp0 h
 ·refine .inr ⟨rfl,?_⟩
  exact ⟨rfl,r1,r3,rfl⟩
 ·refine .inr ⟨rfl,?_⟩
  exact ⟨rfl,r1,r3,r4,r2⟩
 ·refine .inr ⟨rfl,?_⟩
  refine ⟨rfl,rfl,⟨?_,?_⟩,⟨?_,?_⟩⟩
  all_goals (show _ ≤ _; simp only [zf0,if_true]; omega)
theorem ze3:∀ (b:Bool) (l:List Cel),((l.map fun c=>zae (if b = true then [c.row,c.col,c.top,c.left] else [c.row,c.col,c.value])).flatten).length ≤ l.length * 1000
 |_,[]=>by simp
 |b,x :: r=>by
  have h1:=zaz (if b = true then [x.row,x.col,x.top,x.left] else [x.row,x.col,x.value])
  have h2:(if b = true then [x.row,x.col,x.top,x.left] else [x.row,x.col,x.value]).length ≤ 4:=by cases b<;>simp
  have h3:=ze3 b r
  rw [qx,jy,qa,qe]
  omega
theorem zd2 {p:Int} {d:Dc} (hd:docOk d = true):(propB p d).length ≤ 1000000000000000:=by
 obtain ⟨hl,hc,ha,hln,hcel,hras⟩:=zcn hd
 obtain ⟨r1,r2,r3,r4⟩:=zjk hras
 have n1:∀ n:Int,(zae [n]).length ≤ 9:=fun n=>zaz [n]
 have n2:∀ n m:Int,(zae [n,m]).length ≤ 18:=fun n m=>zaz [n,m]
 have hf:∀ b,(d.cells.filter (keepQ b)).length ≤ 64:=fun b=>jk (qaa _ _) hc
 have hb:d.bits.length ≤ 2000:=by
  have h1:d.w * hgt d.w d.bits ≤ 32 * 32:=qb6 r1.2 (by omega) (by omega) (by omega)
  omega
 unfold propB
 split
 ·have:=zkj d.lines fun x hx=>by
   have:=hln x hx
   unfold dlnOk at this
   simp only [qd,decide_eq_true_eq] at this
   omega
  rw [ptext,qa]; have:=n1 d.lines.length; omega
 split
 ·have:=zmr d.lines
  rw [pmot,qa]; have:=n1 d.lines.length; omega
 split
 ·have:=ze3 false (d.cells.filter (keepQ false))
  have h9:=hf false
  rw [zcv,qa]; have:=n1 (d.cells.filter (keepQ false)).length; omega
 split
 ·have:=ze3 true (d.cells.filter (keepQ true))
  have h9:=hf true
  rw [zcv,qa]; have:=n1 (d.cells.filter (keepQ true)).length; omega
 split
 ·have:=zjw (d.cells.zip (valsF d.cells))
  rw [zif] at this
  rw [pvals,qa]; have:=n1 d.cells.length; omega
 split
 ·have:=n2 d.w (hgt d.w d.bits); omega
 split
 ·have:=zdg d.bits
  rw [qa]; have:=n2 d.w (hgt d.w d.bits); omega
 ·have:=n2 d.lines.length d.cells.length; omega
end Go.Proofs.YtfnkamphhpldcaaGreatDoor
namespace Go.Proofs.YtfnkamphhpldcaaGreatDoor
open Go Sx
set_option maxRecDepth 100000
theorem zp5 {α:Type} (l:List α) (i j:Nat) (x:α) (h:i < j):(l.set i x).drop j = l.drop j:=by
 apply qbp
 intro k
 rw [qab,qab,qa9 (by omega)]
theorem zmb {α:Type} (l:List α) (i:Nat) (x:α) (h:i < l.length):(l.set i x).take (i + 1) = l.take i ++ [x]:=by
 apply qbp
 intro k
 rcases Nat.lt_trichotomy k i with hk | hk | hk
 ·rw [qau (by omega),qa9 (by omega),js (by rw [qn]; omega),qau hk]
 ·subst hk
  rw [qau (by omega),qcr h,jz (by rw [qn]; omega)]
  simp [qn,qag (Nat.le_of_lt h)]
 ·rw [qbr (by rw [qn]; omega),qbr (by rw [qa,qn,yf]; omega)]
theorem zfs {α:Type} {q:α → Bool} {l:List α} {k:Nat} (hk:k < l.length) {x:α} (hx:l[k] = x):(l.take (k + 1)).filter q = (l.take k).filter q ++ (if q x = true then [x] else []):=by
 rw [qi hk,qb9,hx]
 cases h:q x<;>simp [h]
theorem z8q {α:Type} {e:α → List SA} {t sz c:Nat} {l:List α} {b:Bool} {L:List (List SA)} (h1:b = !l.isEmpty) (h2:L = l.map e):subE (some (.opt b (.arr t sz L c))) (gE t sz e c l):=⟨h1,by rw [h2]⟩
theorem zqd {α:Type} (R:List α) (i:Nat) (v:α):(!R.isEmpty) = (!(R.set i v).isEmpty):=by cases R<;>cases i<;>rfl
theorem zpq {α:Type} {R:List α} (h:0 < R.length):(!R.isEmpty) = true:=by
 cases R with
 |nil=>cases h
 |cons _ _=>rfl
theorem zoq (F:Fz) (bn:Bool) (bb be bc:Nat) (hb:Sl F 151 6 encK (.slice bn 0 bb be 6 0 bc) []) :
  Fo Tryz.prog F 87 [.va (.slice bn 0 bb be 6 0 bc)] (fun o F'=>∃ sa,o = .ret (.va sa) ∧ Sl F' 151 6 encK sa []):=by
 obtain ⟨hbn,hbb,hbe,hbc,hbL,hbr,heq,hb1,hb2,hb3,hb4⟩:=hb
 cases heq
 rcases bn with _ | _
 ·have hblk:=hb2 rfl
  refine fo_of hΘ Tryz.func87 rfl (by decide) _ _ rfl rfl rfl ?_;conv=>whnf
  refine brd (by decide) ?_;conv=>whnf
  refine ⟨151,hbL,hbr,hblk,hb3,[],hb4,?_⟩;conv=>whnf
  refine ⟨rfl,rfl,rfl,by decide,fun c hc=>?_⟩
  clear hc;conv=>whnf
  refine zbl 2 (fun _=>.arr 151 6 [] c) rfl rfl rfl (fun _ _=>rfl) (fun _ _=>SB.bB_ok rfl) ?_
  intro b F' hle hb'
  exact endFo (.ret (.va (.slice false 0 (b 0) 0 6 0 c))) F' rfl hle (Fz.r F') ⟨_,rfl,Sl.new (l:=[]) (hb' 0 rfl)⟩ ⟨rfl,rfl,rfl,.inr ⟨rfl,rfl,rfl,rfl⟩⟩ rfl
 ·refine fo_of hΘ Tryz.func87 rfl (by decide) _ _ rfl rfl rfl ?_;conv=>whnf
  refine bre (by decide) ?_;conv=>whnf
  exact endFo (.ret (.va (.slice true 0 0 0 6 0 0))) F rfl (Fz.r F) (Fz.r F) ⟨_,rfl,Sl.nil⟩ ⟨rfl,rfl,rfl⟩ rfl
theorem zrs (F:Fz) (sa:SA) (b:Bool) (bc:Nat) (ha:Sl F 151 6 encK sa []) (hB:F bc = some (.cells 4 [.lit b])) :
  Fo Tryz.prog F 226 [.va sa,.va (.fn (.func 225) [fp bc])] (fun o F'=>o = .ret (.va sa) ∧ F' = F):=by
 have hidx:=zwo F sa [] b bc ha (by simp) hB
 rw [show idxG (keepQ b) [] 0 = -1 from rfl] at hidx
 obtain ⟨han,hab,hae,hac,haL,har,rfl,ha1,ha2,ha3,ha4⟩:=ha
 refine fo_of hΘ Tryz.func226 rfl (by decide) _ _ rfl rfl rfl ?_;conv=>whnf
 refine usePu hidx rfl (zaa _) rfl ?_;conv=>whnf
 refine bre (by decide) ?_;conv=>whnf
 exact endPu rfl (Fz.r F) ⟨rfl,rfl,rfl,.inr ⟨rfl,rfl,rfl,rfl⟩⟩ rfl
theorem z2a {L:List (List SA)} (h:∀ x ∈ L,(∀ μ:Mu,x.map (SA.ren μ) = x) ∧ ∀ a ∈ x,a.below 0) (t sz c:Nat):(∀ μ:Mu,(SB.arr t sz L c).ren μ = SB.arr t sz L c) ∧ ∀ n,(SB.arr t sz L c).below n:=by
 refine ⟨fun μ=>?_,fun n x hx a ha=>SA.below_mono (yq _) ((h x hx).2 a ha)⟩
 show SB.arr t sz (L.map (List.map (SA.ren μ))) c = _
 congr 1
 conv=>rhs; rw [← List.map_id L]
 exact jx fun x hx=>(h x hx).1 μ
theorem z3q:(∀ μ:Mu,ti151.zero.map (SA.ren μ) = ti151.zero) ∧ ∀ a ∈ ti151.zero,a.below 0:=⟨fun _=>rfl,z2m rfl⟩
theorem zw2 (F:Fz) (c:Nat) (K:List Cel) (b:Bool) (bc:Nat) (hne:K ≠ []) (hB:F bc = some (.cells 4 [.lit b])) (hl:K.length ≤ 1000) (hc:K.length ≤ c) :
  Ct Tryz.prog 226 [.va (.slice false 1 0 0 6 K.length c),.va (.fn (.func 225) [fp bc])] F [(1,gE 151 6 encK c K)] 2
   (fun o F0 h0 n0=>n0 = 2 ∧ h0 = [(1,.gone)] ∧ ∃ b',o = .ret (.va (.slice false 0 b' 0 6 (K.filter (keepQ b)).length c)) ∧ Sl F0 151 6 encK (.slice false 0 b' 0 6 (K.filter (keepQ b)).length c) (K.filter (keepQ b))):=by
 have hspec:=zn5 (keepQ b) K 0
 have hnil:(!K.isEmpty) = true:=by cases K<;>simp_all
 obtain ⟨z,hz⟩:∃ z,idxG (keepQ b) K 0 = z:=⟨_,rfl⟩
 have hcid:=fun F1 b1 (l1:Fz.le F F1) (h:F1 b1 = some (.arr 151 6 (K.map encK) c))=>zwo F1 _ K b bc (Sl.new (l:=K) (cap:=c) h) (by omega) (l1 _ _ hB)
 rw [hz] at hcid hspec
 clear hz
 refine ct_of hΘ Tryz.func226 rfl (by decide) _ _ rfl rfl rfl ?_;conv=>whnf
 refine lend 1 (fun _=>.arr 151 6 (K.map encK) c) rfl rfl rfl (fun _ _=>by exact zcu zat rfl _ _ _ _) (fun _ _=>zbk zat _ _ _ _ _) ?_
 intro b1 F1 l1 hb1
 refine usePu (hcid F1 _ l1 (hb1 0 ⟨hnil,rfl⟩)) rfl ⟨⟨rfl,rfl,rfl,.inr ⟨rfl,rfl,rfl,rfl⟩⟩,rfl,tv⟩ rfl ?_
 refine ⟨F1,rfl,Fz.r _,rfl,?_⟩
 clear hcid
 rcases hspec with ⟨rfl,h2⟩ | ⟨i,x,h1,hzi,h3,h4,h5⟩
 ·conv=>whnf
  refine bre (by decide) ?_;conv=>whnf
  refine zbl 1 (fun _=>.arr 151 6 (K.map encK) c) rfl rfl rfl (fun _ _=>by exact zcu zat rfl _ _ _ _) (fun _ _=>zbk zat _ _ _ _ _) ?_
  intro b' F' hle hb'
  exact clean [] (.ret (.va (.slice false 0 (b' 0) 0 6 K.length c))) F' [(1,.gone)] 2 ⟨hle,rfl,rfl,b' 0,by rw [h2],by rw [h2]; exact Sl.new (l:=K) (hb' 0 ⟨hnil,rfl⟩)⟩ ⟨rfl,rfl,rfl,.inr ⟨rfl,rfl,rfl,rfl⟩⟩ rfl rfl (Out.bB_ok (o:=.ret (.va (.slice false 0 (b' 0) 0 6 K.length c))) rfl) ⟨tv,tv⟩ ⟨Fz.r F',tv⟩
 ·rw [ji] at hzi
  subst hzi
  have hne1:¬ (i:Int) = -1:=by omega
  have h30:(K.take (i + 1)).filter (keepQ b) = K.take i:=by
   obtain ⟨_,hx⟩:=qh.1 h4
   rw [zfs h1 hx,h5,h3]; simp
  have hi62:i < 4611686018427387904:=by omega
  have hci:=cnt hi62
  conv=>whnf
  refine brj hne1 ?_;conv=>whnf
  refine zan hΘ (X:={ y:Nat × Nat × List Cel // y.1 < y.2.1 ∧ y.2.1 ≤ K.length ∧ y.2.2.length = K.length ∧ y.1 = ((K.take y.2.1).filter (keepQ b)).length ∧ y.2.2.take y.1 = (K.take y.2.1).filter (keepQ b) ∧ y.2.2.drop y.2.1 = K.drop y.2.1 }) (fun y=>[(5,.va (.int .i64 y.1.1)),(6,.va (.int .i64 y.1.2.1))]) [7,16,17,18,19,20,21,22,23,24,25,26,27,28,29,30,31,32,33,34,35]
   (fun y=>[(0,.frz F),(1,gE 151 6 encK c y.1.2.2)]) 2 (fun y=>K.length - y.1.2.1) ⟨(i,i + 1,K),qbt i,h1,rfl,by show i = _; rw [h30,qn]; omega,h30.symm,rfl⟩
   (fun hH hT=>leI [] hH hT rfl ⟨tv,zai zat _ _ _ _ _,tv⟩ ⟨rfl,hci,tv⟩ ⟨Fz.r F,zav zat (zax _ _ _ _),tv⟩) ?_
  rintro ⟨⟨i,j,R⟩,k1,k2,k3,k4,k5,k6⟩ hH hT
  replace k1:i < j:=k1
  replace k2:j ≤ K.length:=k2
  replace k3:R.length = K.length:=k3
  replace k4:i = ((K.take j).filter (keepQ b)).length:=k4
  replace k5:R.take i = (K.take j).filter (keepQ b):=k5
  replace k6:R.drop j = K.drop j:=k6
  have hRn:=zpq (R:=R) (by omega)
  clear h1 h3 h4 h5 h30 hi62 hci hne1 hnil
  by_cases g:j < K.length
  ·have hlt:(j:Int) < (K.length:Nat):=by omega
   have hidx:0 ≤ (j:Int) ∧ (j:Int) < (K.length:Nat):=by omega
   have hidx2:0 ≤ (i:Int) ∧ (i:Int) < (K.length:Nat):=by omega
   have hxhv:∃ v,K[j] = v:=⟨_,rfl⟩
   obtain ⟨v,hv⟩:=hxhv
   have hRj:R[j]? = some v:=by
    have e1:(R.drop j)[0]? = (K.drop j)[0]?:=by rw [k6]
    rw [qab,qab,qah,qc g,hv] at e1
    exact e1
   have hxhu:∃ u,R[i]? = some u:=⟨_,qc (by omega)⟩
   obtain ⟨u,hu⟩:=hxhu
   have hat:(R.map encK)[0 + (j:Int).toNat]? = some (encK v):=by rw [ji,ql,qs,hRj]; rfl
   have hat2:(R.map encK)[0 + (i:Int).toNat]? = some (encK u):=by rw [ji,ql,qs,hu]; rfl
   have hft:=zfs (q:=keepQ b) g hv
   have hcall:=zns F v b bc hB
   have hxhq:∃ q,keepQ b v = q:=⟨_,rfl⟩
   obtain ⟨q,hq⟩:=hxhq
   rw [hq] at hft hcall
   have hj1:j + 1 ≤ K.length:=g
   have hdec:K.length - (j + 1) < K.length - j:=by omega
   have hj62:j < 4611686018427387904:=by omega
   have hi62:i < 4611686018427387904:=by omega
   have k6':R.drop (j + 1) = K.drop (j + 1):=by
    have:=congrArg (List.drop 1) k6
    rw [List.drop_drop,List.drop_drop] at this
    exact this
   have hset:(R.map encK).set (0 + (i:Int).toNat) (encK v) = (R.set i v).map encK:=by rw [ji,ql,qbo]
   have hsn:=zqd R i v
   conv=>whnf
   refine bri hlt ?_;conv=>whnf
   refine ⟨rfl,hidx,?_⟩;conv=>whnf
   refine ⟨hRn,_,hat,?_⟩;conv=>whnf
   refine usePu hcall rfl (zaa _) rfl ?_
   rcases q with _ | _
   ·conv=>whnf
    refine br (fun g2=>absurd g2 (by decide)) (fun _=>?_);conv=>whnf
    exact ⟨⟨(i,j + 1,R),Nat.lt_succ_of_lt k1,hj1,k3,by show i = _; rw [hft]; simpa using k4,by rw [hft]; simpa using k5,k6'⟩,hdec,leR [] hH hT rfl ⟨tv,zai zat _ _ _ _ _,tv⟩ ⟨rfl,cnt hj62,tv⟩ ⟨Fz.r F,zav zat (zax _ _ _ _),tv⟩⟩
   ·conv=>whnf
    refine br (fun _=>?_) (fun g2=>absurd g2 (by decide));conv=>whnf
    refine ⟨rfl,hidx2,?_⟩;conv=>whnf
    refine ⟨hRn,_,hat2,?_⟩;conv=>whnf
    exact ⟨⟨(i + 1,j + 1,R.set i v),by show i + 1 < j + 1; omega,hj1,by rw [qa2]; exact k3,by show i + 1 = _; rw [hft,qa,← k4]; rfl,by show (R.set i v).take (i + 1) = _; rw [zmb _ _ _ (by omega),k5,hft]; rfl,by show (R.set i v).drop (j + 1) = _; rw [zp5 _ _ _ _ (by omega)]; exact k6'⟩,hdec,leR [] hH hT rfl ⟨tv,zai zat _ _ _ _ _,tv⟩ ⟨cnt hi62,cnt hj62,tv⟩ ⟨Fz.r F,zav zat (z8q hsn hset),tv⟩⟩
  ·have hge:¬ (j:Int) < (K.length:Nat):=by omega
   conv=>whnf
   refine brj hge ?_
   have hcut:0 ≤ (i:Int) ∧ (i:Int) ≤ (K.length:Nat):=by omega
   have hjK:j = K.length:=by omega
   have hkf:(K.take j).filter (keepQ b) = K.filter (keepQ b):=by rw [hjK,qm (qf _)]
   rw [hkf] at k4 k5
   have hic:¬ c = (i:Int).toNat:=by rw [ql]; omega
   have he:(if c = (i:Int).toNat then 0 else 0 + (i:Int).toNat) = i:=by rw [if_neg hic]; simp
   have hle9:(if c = (i:Int).toNat then 0 else 0 + (i:Int).toNat) + (K.length - (i:Int).toNat) ≤ (R.map encK).length:=by rw [he,ql,qb]; omega
   have hcut2:0 ≤ (i:Int) ∧ (i:Int) ≤ (c:Nat):=by omega
   have h0e:0 = (if c = 0 then 0 else 0 + 0):=by split<;>rfl
   have hpl:∀ x ∈ (R.map encK).take (if c = (i:Int).toNat then 0 else 0 + (i:Int).toNat) ++ List.replicate (K.length - (i:Int).toNat) ti151.zero ++ (R.map encK).drop ((if c = (i:Int).toNat then 0 else 0 + (i:Int).toNat) + (K.length - (i:Int).toNat)),(∀ μ:Mu,x.map (SA.ren μ) = x) ∧ ∀ a ∈ x,a.below 0:=by
    intro x hx
    rcases yl.1 hx with hx | hx
    ·rcases yl.1 hx with hx | hx
     ·obtain ⟨y,_,rfl⟩:=q9.1 (jv hx); exact zat y
     ·rw [(qbl.1 hx).2]; exact z3q
    ·obtain ⟨y,_,rfl⟩:=q9.1 (qae hx); exact zat y
   have hsl:∀ (F':Fz) (b':Nat),F' b' = some (.arr 151 6 ((R.map encK).take (if c = (i:Int).toNat then 0 else 0 + (i:Int).toNat) ++ List.replicate (K.length - (i:Int).toNat) ti151.zero ++ (R.map encK).drop ((if c = (i:Int).toNat then 0 else 0 + (i:Int).toNat) + (K.length - (i:Int).toNat))) c) → Sl F' 151 6 encK (.slice false 0 b' 0 6 (K.filter (keepQ b)).length c) (K.filter (keepQ b)):=by
    intro F' b' hb'
    refine ⟨false,b',0,c,_,c,rfl,(fun h=>nomatch h),fun _=>hb',?_,?_⟩
    ·rw [he,← k4]
     simp only [qa,qn,qa5,qb,yj,ql]; omega
    ·rw [he,qai,qk,← k4,qbx (by rw [qn,qb]; omega),qc1,Nat.min_self,← qck,k5]
   refine ⟨hcut,?_⟩;conv=>whnf
   refine ⟨hRn,?_⟩;conv=>whnf
   refine ⟨hle9,?_⟩;conv=>whnf
   refine ⟨hcut2,?_⟩;conv=>whnf
   refine zbl 1 (fun _=>.arr 151 6 ((R.map encK).take (if c = (i:Int).toNat then 0 else 0 + (i:Int).toNat) ++ List.replicate (K.length - (i:Int).toNat) ti151.zero ++ (R.map encK).drop ((if c = (i:Int).toNat then 0 else 0 + (i:Int).toNat) + (K.length - (i:Int).toNat))) c) rfl rfl rfl (fun _ _=>by exact (z2a hpl 151 6 c).1 _) (fun _ _=>(z2a hpl 151 6 c).2 1) ?_
   intro b' F' hle hb'
   exact clean [] (.ret (.va (.slice false 0 (b' 0) 0 6 (K.filter (keepQ b)).length c))) F' [(1,.gone)] 2 ⟨hle,rfl,rfl,b' 0,rfl,hsl F' (b' 0) (hb' 0 ⟨hRn,rfl⟩)⟩ ⟨rfl,k4.symm,rfl,.inr ⟨rfl,rfl,h0e,rfl⟩⟩ rfl rfl (Out.bB_ok (o:=.ret (.va (.slice false 0 (b' 0) 0 6 (K.filter (keepQ b)).length c))) rfl) ⟨tv,tv⟩ ⟨Fz.r F',tv⟩
theorem zmq (hP:PFun) (F:Fz) (bn:Bool) (bb be bc:Nat) (K:List Cel) (hb:Sl F 151 6 encK (.slice bn 0 bb be 6 K.length bc) K) (hl:K.length ≤ 1000) :
  Ct Tryz.prog 163 [.va (.ptr ⟨1,0,0,0,0⟩),.va (.slice bn 0 bb be 6 K.length bc),.va (.lit false)] F (wrH false 0 []) 3 (wrL (zcv false K)):=by
 have hfl:(K.filter (keepQ false)).length ≤ K.length:=qaa _ _
 have hpc:zcv false K = zae [((K.filter (keepQ false)).length:Int)] ++ ((K.filter (keepQ false)).map fun c=>zae [c.row,c.col,c.value]).flatten:=rfl
 have hpl:∀ l:List Cel,((l.map fun c=>zae [c.row,c.col,c.value]).flatten).length ≤ l.length * 1000:=fun l=>ze3 false l
 by_cases hne:K = []
 ·subst hne
  have hpc:zcv false [] = [] ++ zae [((0:Nat):Int)]:=by simp [zcv]
  have hcl:=zoq F bn bb be bc hb
  refine ct_of hΘ Tryz.func163 rfl (by decide) _ _ rfl rfl rfl ?_;conv=>whnf
  refine useFo hcl rfl ⟨⟨rfl,rfl,rfl,.inr ⟨rfl,rfl,rfl,rfl⟩⟩,tv⟩ rfl ?_
  rintro _ F1 l1 ⟨sa,rfl,hsa⟩;conv=>whnf
  refine za0 3 (fun _=>.cells 4 [.lit false]) rfl rfl rfl (fun _ _=>rfl) (fun _ _=>SB.bB_ok rfl) ?_
  intro bx F2 l2 hbx
  have hde:=zrs F2 sa false (bx 0) (hsa.mono l2) (hbx 0 rfl)
  have hsa2:=hsa.mono l2
  obtain ⟨hbn,hbb,hbe,hbc,hbL,hbr,rfl,hb1,hb2,hb3,hb4⟩:=hsa2
  refine useFo hde rfl ⟨⟨rfl,rfl,rfl,.inr ⟨rfl,rfl,rfl,rfl⟩⟩,rfl,tv⟩ rfl ?_
  rintro _ F' l3 ⟨rfl,rfl⟩;conv=>whnf
  refine za0 4 (fun _=>.arr 3 1 ([((0:Nat):Int)].map encI) 1) rfl rfl rfl (fun _ _=>rfl) (fun _ _=>SB.bB_ok rfl) ?_
  intro b1 F3 l4 hb1'
  refine use (zdm hP F3 _ [((0:Nat):Int)] false [] 0 (fun _=>rfl) (Sl.new (l:=[((0:Nat):Int)]) (cap:=1) (hb1' 0 rfl)) (by simp) (by simp)) [(1,1),(2,2)] rfl ⟨rfl,⟨rfl,rfl,rfl,.inr ⟨rfl,rfl,rfl,rfl⟩⟩,tv⟩ rfl ⟨zao _ (by omega) (by omega) _ _,zai zab _ _ _ _ _,tv⟩ (by simp [SV.below,SA.below]) ⟨zbq (by rfl) (by rfl),zav zab (zax _ _ _ _),tv⟩ ?_
  rintro out0 F' h0 n0 hle ⟨rfl,rfl,rfl,u1,c1,hu1,rfl⟩;conv=>whnf
  refine zan hΘ (X:={ x:Nat // x = 0 }) (fun x=>[(21,.va (.int .i64 x.1))]) [8,22,23,24,25,26,27,28,29,30,31,32,33,34,35,36,37,38,39,40,41,42,43,44,45,46]
   (fun x=>[(0,.frz F3),(1,wrC u1 1 6 c1 ([] ++ zae [((0:Nat):Int)])),(5,.gone),(6,gE 5 1 encB c1 ([] ++ zae [((0:Nat):Int)]))]) 7 (fun x=>0) ⟨0,rfl⟩
   (fun hH hT=>leI [(6,5)] hH hT rfl ⟨tv,zao _ (by omega) (by omega) _ _,tv,zai zab _ _ _ _ _,tv⟩ ⟨rfl,tv⟩ ⟨Fz.r F3,zbv (i':=1) (j':=5) (by rfl) (by rfl) (by rfl) (by rfl) rfl,zbb zab,tv⟩) ?_
  rintro ⟨k,rfl⟩ hH hT;conv=>whnf
  refine br (fun g2=>absurd g2 (by decide)) (fun _=>?_);conv=>whnf
  exact clean [(3,6)] (.ret (.tup [])) F3 (wrM u1 c1 ([] ++ zae [((0:Nat):Int)])) 4 ⟨Fz.t l1 (Fz.t l2 l4),rfl,rfl,u1,c1,by rw [hpc]; exact hu1,by rw [hpc]⟩ trivial rfl rfl (Out.bB_ok (o:=.ret (.tup [])) rfl) (zb4 _ _ _) ⟨Fz.r F3,zbq (by rfl) (by rfl),zav zab (zax _ _ _ _),tv⟩
 ·have hcl:=zrv F bn bb be bc K hne hb hl
  refine ct_of hΘ Tryz.func163 rfl (by decide) _ _ rfl rfl rfl ?_;conv=>whnf
  refine use hcl [] rfl ⟨⟨rfl,rfl,rfl,.inr ⟨rfl,rfl,rfl,rfl⟩⟩,tv⟩ rfl trivial (by simp [SV.below,SA.below]) trivial ?_
  rintro _ F1 h0 n0 l1 ⟨rfl,c,hcc,rfl,rfl⟩;conv=>whnf
  refine za0 3 (fun _=>.cells 4 [.lit false]) rfl rfl rfl (fun _ _=>rfl) (fun _ _=>SB.bB_ok rfl) ?_
  intro bx F2 l2 hbx
  refine use (zw2 F2 c K false (bx 0) hne (hbx 0 rfl) hl hcc) [(1,4)] rfl ⟨⟨rfl,rfl,rfl,.inr ⟨rfl,rfl,rfl,rfl⟩⟩,rfl,tv⟩ rfl ⟨zai zat _ _ _ _ _,tv⟩ (by simp [SV.below,SA.below]) ⟨zbb zat,tv⟩ ?_
  rintro _ F3 h0 n0 l3 ⟨rfl,rfl,rb,rfl,hR⟩
  have hbx3:=l3 _ _ (hbx 0 rfl)
  have hl3:=Fz.t l1 (Fz.t l2 l3)
  clear hcl l1 l2 l3 hbx hcc hne hb;conv=>whnf
  refine za0 5 (fun _=>.arr 3 1 ([(((K.filter (keepQ false)).length:Nat):Int)].map encI) 1) rfl rfl rfl (fun _ _=>rfl) (fun _ _=>SB.bB_ok rfl) ?_
  intro b1 F4 l4 hb1'
  refine use (zdm hP F4 _ [(((K.filter (keepQ false)).length:Nat):Int)] false [] 0 (fun _=>rfl) (Sl.new (l:=[(((K.filter (keepQ false)).length:Nat):Int)]) (cap:=1) (hb1' 0 rfl)) (by simp) (by simp)) [(1,1),(2,2)] rfl ⟨rfl,⟨rfl,rfl,rfl,.inr ⟨rfl,rfl,rfl,rfl⟩⟩,tv⟩ rfl ⟨zao _ (by omega) (by omega) _ _,zai zab _ _ _ _ _,tv⟩ (by simp [SV.below,SA.below]) ⟨zbq (by rfl) (by rfl),zav zab (zax _ _ _ _),tv⟩ ?_
  rintro out0 F' h0 n0 hle ⟨rfl,rfl,rfl,u1,c1,hu1,rfl⟩;conv=>whnf
  refine zan hΘ (X:={ x:Nat × List UInt8 × Nat × Bool × Fz // Fz.le F4 x.2.2.2.2 ∧ x.1 ≤ (K.filter (keepQ false)).length ∧ x.2.1 = zae [(((K.filter (keepQ false)).length:Nat):Int)] ++ (((K.filter (keepQ false)).take x.1).map fun c=>zae [c.row,c.col,c.value]).flatten ∧ (x.2.2.2.1 = false → x.2.1 = []) }) (fun x=>[(21,.va (.int .i64 x.1.1))]) [8,22,23,24,25,26,27,28,29,30,31,32,33,34,35,36,37,38,39,40,41,42,43,44,45,46]
   (fun x=>[(0,.frz x.1.2.2.2.2),(1,wrC x.1.2.2.2.1 1 7 x.1.2.2.1 x.1.2.1),(6,.gone),(7,gE 5 1 encB x.1.2.2.1 x.1.2.1)]) 8 (fun x=>(K.filter (keepQ false)).length - x.1.1) ⟨(0,[] ++ zae [(((K.filter (keepQ false)).length:Nat):Int)],c1,u1,F4),Fz.r F4,by simpa using hu1⟩
   (fun hH hT=>leI [(7,6)] hH hT rfl ⟨tv,zao _ (by omega) (by omega) _ _,tv,zai zab _ _ _ _ _,tv⟩ ⟨rfl,tv⟩ ⟨Fz.r F4,zbv (i':=1) (j':=6) (by rfl) (by rfl) (by rfl) (by rfl) rfl,zbb zab,tv⟩) ?_
  rintro ⟨⟨k,ob,cb,ub,G⟩,hG,hk,hob,hub⟩ hH hT
  replace hG:Fz.le F4 G:=hG
  replace hk:k ≤ (K.filter (keepQ false)).length:=hk
  replace hob:ob = zae [(((K.filter (keepQ false)).length:Nat):Int)] ++ (((K.filter (keepQ false)).take k).map fun c=>zae [c.row,c.col,c.value]).flatten:=hob
  replace hub:ub = false → ob = []:=hub
  have hlen:ob.length ≤ 100000000000:=by
   have h9:=hpl ((K.filter (keepQ false)).take k)
   have h8:=zaz [(((K.filter (keepQ false)).length:Nat):Int)]
   rw [qn] at h9
   rw [yf] at h8
   rw [hob,qa]; omega
  by_cases g:k < (K.filter (keepQ false)).length
  ·have hlt:(k:Int) < ((K.filter (keepQ false)).length:Nat):=by omega
   have hidx:0 ≤ (k:Int) ∧ (k:Int) < ((K.filter (keepQ false)).length:Nat):=by omega
   have hex:∃ x,(K.filter (keepQ false))[k] = x:=⟨_,rfl⟩
   have hR':=hR.mono (Fz.t l4 hG)
   obtain ⟨nn,nb,ne,nc,nL,nr,heqR,hn1,hn2,hn3,hn4⟩:=hR'
   cases heqR
   obtain ⟨x,hx⟩:=hex
   have hat:nL[0 + (k:Int).toNat]? = some (encK x):=by rw [← hx]; exact Sl.at hn4 g
   have hob2:ob ++ zae [x.row,x.col,x.value] = zae [(((K.filter (keepQ false)).length:Nat):Int)] ++ (((K.filter (keepQ false)).take (k + 1)).map fun c=>zae [c.row,c.col,c.value]).flatten:=by
    rw [zbo g,hx,hob,qk]
   have hk1:k + 1 ≤ (K.filter (keepQ false)).length:=g
   have hdec:(K.filter (keepQ false)).length - (k + 1) < (K.filter (keepQ false)).length - k:=by omega
   have hk62:k < 4611686018427387904:=by omega
   have hbox:=(Fz.t l4 hG) _ _ hbx3
   have hnb:=hn2 rfl
   clear hx;conv=>whnf
   refine bri hlt ?_;conv=>whnf
   refine ⟨rfl,hidx,?_⟩;conv=>whnf
   refine ⟨_,hnb,?_⟩;conv=>whnf
   refine ⟨_,hat,?_⟩;conv=>whnf
   refine ⟨_,hbox,?_⟩;conv=>whnf
   refine za0 9 (fun _=>.arr 3 1 ([x.row,x.col,x.value].map encI) 3) rfl rfl rfl (fun _ _=>rfl) (fun _ _=>SB.bB_ok rfl) ?_
   intro b2 G2 l5 hb2'
   refine use (zdm hP G2 _ [x.row,x.col,x.value] ub ob cb hub (Sl.new (l:=[x.row,x.col,x.value]) (cap:=3) (hb2' 0 rfl)) (by simp) (by omega)) [(1,1),(2,7)] rfl ⟨rfl,⟨rfl,rfl,rfl,.inr ⟨rfl,rfl,rfl,rfl⟩⟩,tv⟩ rfl ⟨zao _ (by omega) (by omega) _ _,zai zab _ _ _ _ _,tv⟩ (by simp [SV.below,SA.below]) ⟨zbq (by rfl) (by rfl),zav zab (zax _ _ _ _),tv⟩ ?_
   rintro out0 F' h0 n0 hle ⟨rfl,rfl,rfl,u2,c2,hu2,rfl⟩;conv=>whnf
   exact ⟨⟨(k + 1,ob ++ zae [x.row,x.col,x.value],c2,u2,G2),Fz.t hG l5,hk1,hob2,hu2⟩,hdec,leR [(7,10)] hH hT rfl ⟨tv,zao _ (by omega) (by omega) _ _,tv,zai zab _ _ _ _ _,tv⟩ ⟨cnt hk62,tv⟩ ⟨Fz.r G2,zbv (i':=1) (j':=10) (by rfl) (by rfl) (by rfl) (by rfl) rfl,zbb zab,tv⟩⟩
  ·have hlt:¬ (k:Int) < ((K.filter (keepQ false)).length:Nat):=by omega
   have hfin:ob = zcv false K:=by rw [hob,hpc,qm (by omega)]
   conv=>whnf
   refine brj hlt ?_;conv=>whnf
   exact clean [(3,7)] (.ret (.tup [])) G (wrM ub cb ob) 4 ⟨Fz.t hl3 (Fz.t l4 hG),rfl,rfl,ub,cb,by rw [← hfin]; exact hub,by rw [hfin]⟩ trivial rfl rfl (Out.bB_ok (o:=.ret (.tup [])) rfl) (zb4 _ _ _) ⟨Fz.r G,zbq (by rfl) (by rfl),zav zab (zax _ _ _ _),tv⟩
theorem zov (hP:PFun) (F:Fz) (bn:Bool) (bb be bc:Nat) (K:List Cel) (hb:Sl F 151 6 encK (.slice bn 0 bb be 6 K.length bc) K) (hl:K.length ≤ 1000) :
  Ct Tryz.prog 163 [.va (.ptr ⟨1,0,0,0,0⟩),.va (.slice bn 0 bb be 6 K.length bc),.va (.lit true)] F (wrH false 0 []) 3 (wrL (zcv true K)):=by
 have hfl:(K.filter (keepQ true)).length ≤ K.length:=qaa _ _
 have hpc:zcv true K = zae [((K.filter (keepQ true)).length:Int)] ++ ((K.filter (keepQ true)).map fun c=>zae [c.row,c.col,c.top,c.left]).flatten:=rfl
 have hpl:∀ l:List Cel,((l.map fun c=>zae [c.row,c.col,c.top,c.left]).flatten).length ≤ l.length * 1000:=fun l=>ze3 true l
 by_cases hne:K = []
 ·subst hne
  have hpc:zcv true [] = [] ++ zae [((0:Nat):Int)]:=by simp [zcv]
  have hcl:=zoq F bn bb be bc hb
  refine ct_of hΘ Tryz.func163 rfl (by decide) _ _ rfl rfl rfl ?_;conv=>whnf
  refine useFo hcl rfl ⟨⟨rfl,rfl,rfl,.inr ⟨rfl,rfl,rfl,rfl⟩⟩,tv⟩ rfl ?_
  rintro _ F1 l1 ⟨sa,rfl,hsa⟩;conv=>whnf
  refine za0 3 (fun _=>.cells 4 [.lit true]) rfl rfl rfl (fun _ _=>rfl) (fun _ _=>SB.bB_ok rfl) ?_
  intro bx F2 l2 hbx
  have hde:=zrs F2 sa true (bx 0) (hsa.mono l2) (hbx 0 rfl)
  have hsa2:=hsa.mono l2
  obtain ⟨hbn,hbb,hbe,hbc,hbL,hbr,rfl,hb1,hb2,hb3,hb4⟩:=hsa2
  refine useFo hde rfl ⟨⟨rfl,rfl,rfl,.inr ⟨rfl,rfl,rfl,rfl⟩⟩,rfl,tv⟩ rfl ?_
  rintro _ F' l3 ⟨rfl,rfl⟩;conv=>whnf
  refine za0 4 (fun _=>.arr 3 1 ([((0:Nat):Int)].map encI) 1) rfl rfl rfl (fun _ _=>rfl) (fun _ _=>SB.bB_ok rfl) ?_
  intro b1 F3 l4 hb1'
  refine use (zdm hP F3 _ [((0:Nat):Int)] false [] 0 (fun _=>rfl) (Sl.new (l:=[((0:Nat):Int)]) (cap:=1) (hb1' 0 rfl)) (by simp) (by simp)) [(1,1),(2,2)] rfl ⟨rfl,⟨rfl,rfl,rfl,.inr ⟨rfl,rfl,rfl,rfl⟩⟩,tv⟩ rfl ⟨zao _ (by omega) (by omega) _ _,zai zab _ _ _ _ _,tv⟩ (by simp [SV.below,SA.below]) ⟨zbq (by rfl) (by rfl),zav zab (zax _ _ _ _),tv⟩ ?_
  rintro out0 F' h0 n0 hle ⟨rfl,rfl,rfl,u1,c1,hu1,rfl⟩;conv=>whnf
  refine zan hΘ (X:={ x:Nat // x = 0 }) (fun x=>[(21,.va (.int .i64 x.1))]) [8,22,23,24,25,26,27,28,29,30,31,32,33,34,35,36,37,38,39,40,41,42,43,44,45,46]
   (fun x=>[(0,.frz F3),(1,wrC u1 1 6 c1 ([] ++ zae [((0:Nat):Int)])),(5,.gone),(6,gE 5 1 encB c1 ([] ++ zae [((0:Nat):Int)]))]) 7 (fun x=>0) ⟨0,rfl⟩
   (fun hH hT=>leI [(6,5)] hH hT rfl ⟨tv,zao _ (by omega) (by omega) _ _,tv,zai zab _ _ _ _ _,tv⟩ ⟨rfl,tv⟩ ⟨Fz.r F3,zbv (i':=1) (j':=5) (by rfl) (by rfl) (by rfl) (by rfl) rfl,zbb zab,tv⟩) ?_
  rintro ⟨k,rfl⟩ hH hT;conv=>whnf
  refine br (fun g2=>absurd g2 (by decide)) (fun _=>?_);conv=>whnf
  exact clean [(3,6)] (.ret (.tup [])) F3 (wrM u1 c1 ([] ++ zae [((0:Nat):Int)])) 4 ⟨Fz.t l1 (Fz.t l2 l4),rfl,rfl,u1,c1,by rw [hpc]; exact hu1,by rw [hpc]⟩ trivial rfl rfl (Out.bB_ok (o:=.ret (.tup [])) rfl) (zb4 _ _ _) ⟨Fz.r F3,zbq (by rfl) (by rfl),zav zab (zax _ _ _ _),tv⟩
 ·have hcl:=zrv F bn bb be bc K hne hb hl
  refine ct_of hΘ Tryz.func163 rfl (by decide) _ _ rfl rfl rfl ?_;conv=>whnf
  refine use hcl [] rfl ⟨⟨rfl,rfl,rfl,.inr ⟨rfl,rfl,rfl,rfl⟩⟩,tv⟩ rfl trivial (by simp [SV.below,SA.below]) trivial ?_
  rintro _ F1 h0 n0 l1 ⟨rfl,c,hcc,rfl,rfl⟩;conv=>whnf
  refine za0 3 (fun _=>.cells 4 [.lit true]) rfl rfl rfl (fun _ _=>rfl) (fun _ _=>SB.bB_ok rfl) ?_
  intro bx F2 l2 hbx
  refine use (zw2 F2 c K true (bx 0) hne (hbx 0 rfl) hl hcc) [(1,4)] rfl ⟨⟨rfl,rfl,rfl,.inr ⟨rfl,rfl,rfl,rfl⟩⟩,rfl,tv⟩ rfl ⟨zai zat _ _ _ _ _,tv⟩ (by simp [SV.below,SA.below]) ⟨zbb zat,tv⟩ ?_
  rintro _ F3 h0 n0 l3 ⟨rfl,rfl,rb,rfl,hR⟩
  have hbx3:=l3 _ _ (hbx 0 rfl)
  have hl3:=Fz.t l1 (Fz.t l2 l3)
  clear hcl l1 l2 l3 hbx hcc hne hb;conv=>whnf
  refine za0 5 (fun _=>.arr 3 1 ([(((K.filter (keepQ true)).length:Nat):Int)].map encI) 1) rfl rfl rfl (fun _ _=>rfl) (fun _ _=>SB.bB_ok rfl) ?_
  intro b1 F4 l4 hb1'
  refine use (zdm hP F4 _ [(((K.filter (keepQ true)).length:Nat):Int)] false [] 0 (fun _=>rfl) (Sl.new (l:=[(((K.filter (keepQ true)).length:Nat):Int)]) (cap:=1) (hb1' 0 rfl)) (by simp) (by simp)) [(1,1),(2,2)] rfl ⟨rfl,⟨rfl,rfl,rfl,.inr ⟨rfl,rfl,rfl,rfl⟩⟩,tv⟩ rfl ⟨zao _ (by omega) (by omega) _ _,zai zab _ _ _ _ _,tv⟩ (by simp [SV.below,SA.below]) ⟨zbq (by rfl) (by rfl),zav zab (zax _ _ _ _),tv⟩ ?_
  rintro out0 F' h0 n0 hle ⟨rfl,rfl,rfl,u1,c1,hu1,rfl⟩;conv=>whnf
  refine zan hΘ (X:={ x:Nat × List UInt8 × Nat × Bool × Fz // Fz.le F4 x.2.2.2.2 ∧ x.1 ≤ (K.filter (keepQ true)).length ∧ x.2.1 = zae [(((K.filter (keepQ true)).length:Nat):Int)] ++ (((K.filter (keepQ true)).take x.1).map fun c=>zae [c.row,c.col,c.top,c.left]).flatten ∧ (x.2.2.2.1 = false → x.2.1 = []) }) (fun x=>[(21,.va (.int .i64 x.1.1))]) [8,22,23,24,25,26,27,28,29,30,31,32,33,34,35,36,37,38,39,40,41,42,43,44,45,46]
   (fun x=>[(0,.frz x.1.2.2.2.2),(1,wrC x.1.2.2.2.1 1 7 x.1.2.2.1 x.1.2.1),(6,.gone),(7,gE 5 1 encB x.1.2.2.1 x.1.2.1)]) 8 (fun x=>(K.filter (keepQ true)).length - x.1.1) ⟨(0,[] ++ zae [(((K.filter (keepQ true)).length:Nat):Int)],c1,u1,F4),Fz.r F4,by simpa using hu1⟩
   (fun hH hT=>leI [(7,6)] hH hT rfl ⟨tv,zao _ (by omega) (by omega) _ _,tv,zai zab _ _ _ _ _,tv⟩ ⟨rfl,tv⟩ ⟨Fz.r F4,zbv (i':=1) (j':=6) (by rfl) (by rfl) (by rfl) (by rfl) rfl,zbb zab,tv⟩) ?_
  rintro ⟨⟨k,ob,cb,ub,G⟩,hG,hk,hob,hub⟩ hH hT
  replace hG:Fz.le F4 G:=hG
  replace hk:k ≤ (K.filter (keepQ true)).length:=hk
  replace hob:ob = zae [(((K.filter (keepQ true)).length:Nat):Int)] ++ (((K.filter (keepQ true)).take k).map fun c=>zae [c.row,c.col,c.top,c.left]).flatten:=hob
  replace hub:ub = false → ob = []:=hub
  have hlen:ob.length ≤ 100000000000:=by
   have h9:=hpl ((K.filter (keepQ true)).take k)
   have h8:=zaz [(((K.filter (keepQ true)).length:Nat):Int)]
   rw [qn] at h9
   rw [yf] at h8
   rw [hob,qa]; omega
  by_cases g:k < (K.filter (keepQ true)).length
  ·have hlt:(k:Int) < ((K.filter (keepQ true)).length:Nat):=by omega
   have hidx:0 ≤ (k:Int) ∧ (k:Int) < ((K.filter (keepQ true)).length:Nat):=by omega
   have hex:∃ x,(K.filter (keepQ true))[k] = x:=⟨_,rfl⟩
   have hR':=hR.mono (Fz.t l4 hG)
   obtain ⟨nn,nb,ne,nc,nL,nr,heqR,hn1,hn2,hn3,hn4⟩:=hR'
   cases heqR
   obtain ⟨x,hx⟩:=hex
   have hat:nL[0 + (k:Int).toNat]? = some (encK x):=by rw [← hx]; exact Sl.at hn4 g
   have hob2:ob ++ zae [x.row,x.col,x.top,x.left] = zae [(((K.filter (keepQ true)).length:Nat):Int)] ++ (((K.filter (keepQ true)).take (k + 1)).map fun c=>zae [c.row,c.col,c.top,c.left]).flatten:=by
    rw [zbo g,hx,hob,qk]
   have hk1:k + 1 ≤ (K.filter (keepQ true)).length:=g
   have hdec:(K.filter (keepQ true)).length - (k + 1) < (K.filter (keepQ true)).length - k:=by omega
   have hk62:k < 4611686018427387904:=by omega
   have hbox:=(Fz.t l4 hG) _ _ hbx3
   have hnb:=hn2 rfl
   clear hx;conv=>whnf
   refine bri hlt ?_;conv=>whnf
   refine ⟨rfl,hidx,?_⟩;conv=>whnf
   refine ⟨_,hnb,?_⟩;conv=>whnf
   refine ⟨_,hat,?_⟩;conv=>whnf
   refine ⟨_,hbox,?_⟩;conv=>whnf
   refine za0 9 (fun _=>.arr 3 1 ([x.row,x.col,x.top,x.left].map encI) 4) rfl rfl rfl (fun _ _=>rfl) (fun _ _=>SB.bB_ok rfl) ?_
   intro b2 G2 l5 hb2'
   refine use (zdm hP G2 _ [x.row,x.col,x.top,x.left] ub ob cb hub (Sl.new (l:=[x.row,x.col,x.top,x.left]) (cap:=4) (hb2' 0 rfl)) (by simp) (by omega)) [(1,1),(2,7)] rfl ⟨rfl,⟨rfl,rfl,rfl,.inr ⟨rfl,rfl,rfl,rfl⟩⟩,tv⟩ rfl ⟨zao _ (by omega) (by omega) _ _,zai zab _ _ _ _ _,tv⟩ (by simp [SV.below,SA.below]) ⟨zbq (by rfl) (by rfl),zav zab (zax _ _ _ _),tv⟩ ?_
   rintro out0 F' h0 n0 hle ⟨rfl,rfl,rfl,u2,c2,hu2,rfl⟩;conv=>whnf
   exact ⟨⟨(k + 1,ob ++ zae [x.row,x.col,x.top,x.left],c2,u2,G2),Fz.t hG l5,hk1,hob2,hu2⟩,hdec,leR [(7,10)] hH hT rfl ⟨tv,zao _ (by omega) (by omega) _ _,tv,zai zab _ _ _ _ _,tv⟩ ⟨cnt hk62,tv⟩ ⟨Fz.r G2,zbv (i':=1) (j':=10) (by rfl) (by rfl) (by rfl) (by rfl) rfl,zbb zab,tv⟩⟩
  ·have hlt:¬ (k:Int) < ((K.filter (keepQ true)).length:Nat):=by omega
   have hfin:ob = zcv true K:=by rw [hob,hpc,qm (by omega)]
   conv=>whnf
   refine brj hlt ?_;conv=>whnf
   exact clean [(3,7)] (.ret (.tup [])) G (wrM ub cb ob) 4 ⟨Fz.t hl3 (Fz.t l4 hG),rfl,rfl,ub,cb,by rw [← hfin]; exact hub,by rw [hfin]⟩ trivial rfl rfl (Out.bB_ok (o:=.ret (.tup [])) rfl) (zb4 _ _ _) ⟨Fz.r G,zbq (by rfl) (by rfl),zav zab (zax _ _ _ _),tv⟩
theorem z81 (hP:PFun) (F:Fz) (an:Bool) (ab ae al ac:Nat) (bn:Bool) (bb be bc:Nat) (K:List Cel) (w:Int) (s:List UInt8) (hb:Sl F 151 6 encK (.slice bn 0 bb be 6 K.length bc) K) (hl:K.length ≤ 1000) :
  Ct Tryz.prog 162 [.agg (docS (.slice an 0 ab ae 2 al ac) (.slice bn 0 bb be 6 K.length bc) w s),.va (.ptr ⟨1,0,0,0,0⟩)] F (wrH false 0 []) 3 (wrL (zcv false K)):=by
 have hc:=zmq hP F bn bb be bc K hb hl
 obtain ⟨P,hPc⟩:∃ P,zcv false K = P:=⟨_,rfl⟩
 rw [hPc] at hc ⊢
 clear hPc
 refine ct_of hΘ Tryz.func162 rfl (by decide) _ _ rfl rfl rfl ?_;conv=>whnf
 refine use hc [(1,1),(2,2)] rfl ⟨rfl,⟨rfl,rfl,rfl,.inr ⟨rfl,rfl,rfl,rfl⟩⟩,rfl,tv⟩ rfl ⟨zao _ (by omega) (by omega) _ _,zai zab _ _ _ _ _,tv⟩ (by simp [SV.below,SA.below]) ⟨zbq (by rfl) (by rfl),zav zab (zax _ _ _ _),tv⟩ ?_
 rintro out0 F1 h0 n0 hle ⟨rfl,rfl,u1,c1,hu1,rfl⟩;conv=>whnf
 exact clean [(3,4)] (.ret (.tup [])) F1 (wrM u1 c1 P) 4 ⟨hle,rfl,rfl,u1,c1,hu1,rfl⟩ trivial rfl rfl (Out.bB_ok (o:=.ret (.tup [])) rfl) (zb4 _ _ _) ⟨Fz.r F1,zbv (i':=1) (j':=4) (by rfl) (by rfl) (by rfl) (by rfl) rfl,zbb zab,tv⟩
theorem z7a (hP:PFun) (F:Fz) (an:Bool) (ab ae al ac:Nat) (bn:Bool) (bb be bc:Nat) (K:List Cel) (w:Int) (s:List UInt8) (hb:Sl F 151 6 encK (.slice bn 0 bb be 6 K.length bc) K) (hl:K.length ≤ 1000) :
  Ct Tryz.prog 164 [.agg (docS (.slice an 0 ab ae 2 al ac) (.slice bn 0 bb be 6 K.length bc) w s),.va (.ptr ⟨1,0,0,0,0⟩)] F (wrH false 0 []) 3 (wrL (zcv true K)):=by
 have hc:=zov hP F bn bb be bc K hb hl
 obtain ⟨P,hPc⟩:∃ P,zcv true K = P:=⟨_,rfl⟩
 rw [hPc] at hc ⊢
 clear hPc
 refine ct_of hΘ Tryz.func164 rfl (by decide) _ _ rfl rfl rfl ?_;conv=>whnf
 refine use hc [(1,1),(2,2)] rfl ⟨rfl,⟨rfl,rfl,rfl,.inr ⟨rfl,rfl,rfl,rfl⟩⟩,rfl,tv⟩ rfl ⟨zao _ (by omega) (by omega) _ _,zai zab _ _ _ _ _,tv⟩ (by simp [SV.below,SA.below]) ⟨zbq (by rfl) (by rfl),zav zab (zax _ _ _ _),tv⟩ ?_
 rintro out0 F1 h0 n0 hle ⟨rfl,rfl,u1,c1,hu1,rfl⟩;conv=>whnf
 exact clean [(3,4)] (.ret (.tup [])) F1 (wrM u1 c1 P) 4 ⟨hle,rfl,rfl,u1,c1,hu1,rfl⟩ trivial rfl rfl (Out.bB_ok (o:=.ret (.tup [])) rfl) (zb4 _ _ _) ⟨Fz.r F1,zbv (i':=1) (j':=4) (by rfl) (by rfl) (by rfl) (by rfl) rfl,zbb zab,tv⟩
end Go.Proofs.YtfnkamphhpldcaaGreatDoor
