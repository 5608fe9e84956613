import Derived.Test.YtfnkamphhpldcaaGreatDoorK16
set_option maxHeartbeats 64000000
namespace Go.Proofs.YtfnkamphhpldcaaGreatDoor
open Go Sx
set_option maxRecDepth 100000
def iA (i c:Nat):List Int → SA
 |[]=>.nilsl
 |_ :: r=>.slice false i 0 0 1 (r.length + 1) c
def iE (c:Nat) (s:List Int):Ent:=.opt (!s.isEmpty) (.arr 3 1 (s.map encI) c)
def oA (i c:Nat):List Stp → SA
 |[]=>.nilsl
 |_ :: r=>.slice false i 0 0 2 (r.length + 1) c
def oE (c:Nat) (s:List Stp):Ent:=.opt (!s.isEmpty) (.arr 56 2 (s.map enc) c)
theorem za1 {μ:Mu} {i j:Nat} (h:μ i 0 = (j,0)) (c:Nat) (s:List Int):(iA i c s).ren μ = iA j c s:=by
 cases s with
 |nil=>rfl
 |cons x r=>simp only [iA,SA.ren,h]
theorem zfw {a b c d e f a' b' c' d' e' f':SA} (h1:a = a') (h2:b = b') (h3:c = c') (h4:d = d') (h5:e = e') (h6:f = f') :
  SB.cells 265 [.nilsl,a,b,c,d,e,f] = SB.cells 265 [.nilsl,a',b',c',d',e',f']:=by subst h1 h2 h3 h4 h5 h6; rfl
theorem z7y (μ:Mu) (c:Nat) (s:List Int):(iE c s).ren μ = iE c s:=by
 show Ent.opt _ (SB.ren μ _) = _; rw [zbu]; rfl
theorem zak {x:Option Ent} {μ:Mu} {c:Nat} {s:List Int} (h:subE x (iE c s)):subE x ((iE c s).ren μ):=by rw [z7y]; exact h
theorem zah (c:Nat) (s:List Int):subE (some (iE c s)) (iE c s):=⟨rfl,rfl⟩
theorem zfx {c:Nat} {s:List Int} (L:List (List SA)) (h:L = s.map encI):subE (some (.one (.arr 3 1 L c))) (iE c s):=by rw [h]; exact rfl
theorem zac (n c:Nat) (s:List Int):(iE c s).below n:=za8 n s c
theorem z0z {n i:Nat} (h:i < n) (c:Nat) (s:List Int):(iA i c s).below n:=by
 cases s with
 |nil=>trivial
 |cons x r=>exact .inr h
theorem zds (c1 c2 c3 c4 c5 c6:Nat) (s1 s2 s3 s4 s5 s6:List Int):(SB.cells 265 [.nilsl,iA 2 c1 s1,iA 3 c2 s2,iA 4 c3 s3,iA 5 c4 s4,iA 6 c5 s5,iA 7 c6 s6]).below 8:=by
 intro a ha
 simp only [qj,qq,or_false] at ha
 rcases ha with rfl | rfl | rfl | rfl | rfl | rfl | rfl
 ·trivial
 all_goals exact z0z (by omega) _ _
theorem zfy {μ:Mu} {i j:Nat} (h:μ i 0 = (j,0)) (c n:Nat) (s:List Int) (ν:Int) (hn:n = s.length + 1):SA.slice false j 0 0 1 n c = (iA i c (s ++ [ν])).ren μ:=by
 rw [za1 h,hn]
 cases s with
 |nil=>rfl
 |cons x r=>simp [iA]
theorem zc2 {κ:Int} {l:List Stp} {k:Nat} {s:List Int} {ν:Int} (hs:s = sel κ (l.take k)) (g:k < l.length) (h:l[k] = (κ,ν)):s ++ [ν] = sel κ (l.take (k + 1)):=by
 rw [z6e κ l k g (by rw [h]),hs,h]
theorem zaq {κ κ':Int} {l:List Stp} {k:Nat} {s:List Int} {ν:Int} (hs:s = sel κ (l.take k)) (g:k < l.length) (h:l[k] = (κ',ν)) (hne:κ' ≠ κ):s = sel κ (l.take (k + 1)):=by
 rw [z7w κ l k g (by rw [h]; exact hne),hs]
theorem zen {κ:Int} {l:List Stp} {k:Nat} {s:List Int} (hs:s = sel κ (l.take k)):s.length ≤ k:=by
 rw [hs]; have:=z6t κ (l.take k); rw [qn] at this; omega
def piece (κ:Int) (s:List Int):List Stp:=if s = [] then [] else if κ = 3 then [(3,mx s)] else if κ = 5 then (s.take 5).map (fun n=>(5,n)) else [(κ,mn s)]
def pieces (s1 s2 s3 s4 s5:List Int):List (List Stp):=[[],piece 1 s1,piece 2 s2,piece 3 s3,piece 4 s4,piece 5 s5,[]]
def normS (l:List Stp):List Stp:=if sel 6 l = [] then (pieces (sel 1 l) (sel 2 l) (sel 3 l) (sel 4 l) (sel 5 l)).flatten else [(6,0)]
theorem zdq {s1 s2 s3 s4 s5:List Int} {k:Nat} {out:List Stp} (p:List Stp) (h:out = ((pieces s1 s2 s3 s4 s5).take k).flatten) (hk:(pieces s1 s2 s3 s4 s5)[k]? = some p):out ++ p = ((pieces s1 s2 s3 s4 s5).take (k + 1)).flatten:=by
 have hl:=(qh.1 hk).1
 have he:=(qh.1 hk).2
 rw [zcq hl,he,h]
theorem zgb (κ:Int) (s:List Int):(piece κ s).length ≤ 5:=by
 unfold piece; split
 ·simp
 ·split
  ·simp
  ·split
   ·simp; omega
   ·simp
theorem zeb (s1 s2 s3 s4 s5:List Int) (k:Nat):((pieces s1 s2 s3 s4 s5).take k).flatten.length ≤ 100:=by
 refine jk (zcm _ k) ?_
 have h1:=zgb 1 s1; have h2:=zgb 2 s2; have h3:=zgb 3 s3; have h4:=zgb 4 s4; have h5:=zgb 5 s5
 simp only [pieces,jy,qbb,qa,qp]; omega
theorem zto (x:Int) (r:List Int):piece 5 (x :: r) = ((x :: r).take 5).map (fun n=>(5,n)):=by simp [piece]
theorem zjt {κ:Int} {x:Int} {r:List Int} (h3:κ ≠ 3) (h5:κ ≠ 5):piece κ (x :: r) = [(κ,mn (x :: r))]:=by simp [piece,h3,h5]
theorem zgp {μ:Mu} {i j:Nat} (h:μ i 0 = (j,0)) (c n:Nat) (s:List Stp) (t:Stp) (hn:n = s.length + 1):atomE ((oA i c (s ++ [t])).ren μ) (SA.slice false j 0 0 2 n c):=by
 subst hn
 cases s with
 |nil=>simp only [oA,qu,SA.ren,h]; exact ⟨rfl,rfl,rfl,.inr ⟨rfl,rfl,rfl,rfl⟩⟩
 |cons x r=>simp only [oA,jt,SA.ren,h]; exact ⟨rfl,by simp,rfl,.inr ⟨rfl,rfl,rfl,rfl⟩⟩
theorem z6q (μ:Mu) (c:Nat) (s:List Stp):(oE c s).ren μ = oE c s:=by
 show Ent.opt _ (SB.ren μ _) = _; rw [zgg]; rfl
theorem zcy {x:Option Ent} {μ:Mu} {c:Nat} {s:List Stp} (h:subE x (oE c s)):subE x ((oE c s).ren μ):=by rw [z6q]; exact h
theorem zgo {c:Nat} {s:List Stp} (L:List (List SA)) (h:L = s.map enc):subE (some (.one (.arr 56 2 L c))) (oE c s):=by rw [h]; exact rfl
theorem zet (c:Nat) (s:List Stp):subE (some (oE c s)) (oE c s):=⟨rfl,rfl⟩
theorem zbt (n c:Nat) (s:List Stp):(oE c s).below n:=zdw n s c
structure N1 (l:List Stp) (k:Nat) (s1 s2 s3 s4 s5 s6:List Int) (c5:Nat):Prop where
 hk:k ≤ l.length
 h1:s1 = sel 1 (l.take k)
 h2:s2 = sel 2 (l.take k)
 h3:s3 = sel 3 (l.take k)
 h4:s4 = sel 4 (l.take k)
 h5:s5 = sel 5 (l.take k)
 h6:s6 = sel 6 (l.take k)
 h7:s5.length ≤ c5
abbrev LC:=List Int × Nat
abbrev X1 (l:List Stp):={ x:Nat × LC × LC × LC × LC × LC × LC // N1 l x.1 x.2.1.1 x.2.2.1.1 x.2.2.2.1.1 x.2.2.2.2.1.1 x.2.2.2.2.2.1.1 x.2.2.2.2.2.2.1 x.2.2.2.2.2.1.2 }
theorem zoj (F:Fz) (sl:SA) (ls:List (List Stp)) (hs:zq0 F sl ls) (hn:ls.length < 1000) (hl:ls.flatten.length < 100000) (hkind:∀ s ∈ ls.flatten,1 ≤ s.1 ∧ s.1 ≤ 6) :
  Fo Tryz.prog F 132 [.va sl] (fun o F'=>∃ sc,o = .ret (.va sc) ∧ za3 F' sc (normS ls.flatten)):=by
 have hc:=zwk F sl ls hs hn (by omega)
 obtain ⟨l,hll⟩:∃ l,l = ls.flatten:=⟨_,rfl⟩
 rw [← hll] at hl hkind hc ⊢
 obtain ⟨sn,sb,se,scp,sL,sr,rfl,s1,s2,s3,s4⟩:=hs
 refine fo_of hΘ Tryz.func132 rfl (by decide) _ _ rfl rfl rfl ?_;conv=>whnf
 refine useFo (hc) rfl (zaa _) rfl ?_
 rintro _ F1 l1 ⟨sa,rfl,ha⟩;conv=>whnf
 obtain ⟨han,hab,hae,hac,haL,har,rfl,ha1,ha2,ha3,ha4⟩:=ha
 conv=>whnf
 refine zan hΘ (X:=X1 l) (fun x=>[(14,.va (.int .i64 x.1.1))]) [5,15,16,17,18,19,20,21,22,23,24,25,26,27,28,29]
  (fun x=>[(0,.frz F1),(1,.one (.cells 265 [.nilsl,iA 2 x.1.2.1.2 x.1.2.1.1,iA 3 x.1.2.2.1.2 x.1.2.2.1.1,iA 4 x.1.2.2.2.1.2 x.1.2.2.2.1.1,iA 5 x.1.2.2.2.2.1.2 x.1.2.2.2.2.1.1,iA 6 x.1.2.2.2.2.2.1.2 x.1.2.2.2.2.2.1.1,iA 7 x.1.2.2.2.2.2.2.2 x.1.2.2.2.2.2.2.1])),
   (2,iE x.1.2.1.2 x.1.2.1.1),(3,iE x.1.2.2.1.2 x.1.2.2.1.1),(4,iE x.1.2.2.2.1.2 x.1.2.2.2.1.1),(5,iE x.1.2.2.2.2.1.2 x.1.2.2.2.2.1.1),(6,iE x.1.2.2.2.2.2.1.2 x.1.2.2.2.2.2.1.1),(7,iE x.1.2.2.2.2.2.2.2 x.1.2.2.2.2.2.2.1)]) 8 (fun x=>l.length - x.1.1)
  ⟨(0,([],0),([],0),([],0),([],0),([],0),([],0)),⟨by simp,rfl,rfl,rfl,rfl,rfl,rfl,qf 0⟩⟩
  (fun hH hT=>leI [(2,2),(3,3),(4,4),(5,5),(6,6),(7,7)] hH hT rfl ?_ ⟨rfl,tv⟩ ⟨Fz.r F1,rfl,rfl,rfl,rfl,rfl,rfl,rfl,tv⟩) ?_
 ·exact ⟨tv,zds _ _ _ _ _ _ _ _ _ _ _ _,zac _ _ _,zac _ _ _,zac _ _ _,zac _ _ _,zac _ _ _,zac _ _ _,tv⟩
 rintro ⟨⟨k,⟨s1,c1⟩,⟨s2,c2⟩,⟨s3,c3⟩,⟨s4,c4⟩,⟨s5,c5⟩,⟨s6,c6⟩⟩,hk,h1,h2,h3,h4,h5,h6,h7⟩ hH hT;conv=>whnf
 refine br (fun gb=>?_) (fun gb=>?_)
 ·have gk:k < l.length:=by simpa using gb
  clear gb
  have hκ:=hkind l[k] (jj gk)
  have hx:∃ κ ν,l[k] = (κ,ν):=⟨_,_,rfl⟩
  obtain ⟨κ,ν,hx⟩:=hx
  rw [hx] at hκ
  replace hκ:1 ≤ κ ∧ κ ≤ 6:=hκ
  conv=>whnf
  refine ⟨Sl.lt ha1 gk,⟨by simp,by simpa using gk⟩,?_⟩;conv=>whnf
  refine ⟨_,ha2 (Sl.lt ha1 gk),?_⟩;conv=>whnf
  have hat:haL[hae + (k:Int).toNat]? = some (enc (κ,ν)):=(Sl.at ha4 gk).trans (by rw [hx])
  refine ⟨_,hat,?_⟩
  have hcase:κ = 1 ∨ κ = 2 ∨ κ = 3 ∨ κ = 4 ∨ κ = 5 ∨ κ = 6:=by omega
  rcases hcase with rfl | rfl | rfl | rfl | rfl | rfl
  ·rcases s1 with _ | ⟨x,r⟩
   ·conv=>whnf
    refine drawP hΘ mixed (lk [0,1,2,3,4,5,6,7] (.alt 8 (.alt 9 (.look 10 (.last 11 .done)) .nil) .nil)) [1,8] (by kernel_rfl) ?_;conv=>whnf
    repeat' ((conv=>whnf); first
     |refine ⟨rfl,?_⟩
     |refine ⟨Fz.r _,rfl,?_⟩
     |refine ⟨Fz.r _,rfl,rfl,?_⟩
     |refine ⟨⟨by simp,by simp⟩,?_⟩
     |fail)
    conv=>whnf
    refine ⟨qf 1,[encI ν],rfl,?_⟩;conv=>whnf
    refine ⟨rfl,rfl,?_⟩;conv=>whnf
    refine ⟨by show 1 * 8 ≤ 140737488355328; omega,fun c' hc=>?_⟩
    repeat' ((conv=>whnf); first
     |refine ⟨rfl,?_⟩
     |refine ⟨Fz.r _,rfl,?_⟩
     |refine ⟨Fz.r _,rfl,rfl,?_⟩
     |refine ⟨⟨by simp,by simp⟩,?_⟩
     |fail)
    conv=>whnf
    refine ⟨⟨(k + 1,([] ++ [ν],c'),(s2,c2),(s3,c3),(s4,c4),(s5,c5),(s6,c6)),⟨gk,zc2 h1 gk hx,zaq h2 gk hx (by decide),zaq h3 gk hx (by decide),zaq h4 gk hx (by decide),zaq h5 gk hx (by decide),zaq h6 gk hx (by decide),h7⟩⟩,by show l.length - (k + 1) < l.length - k; omega,
     leR [(2,10),(3,3),(4,4),(5,5),(6,6),(7,7)] hH hT rfl ⟨tv,zds _ _ _ _ _ _ _ _ _ _ _ _,zac _ _ _,zac _ _ _,zac _ _ _,zac _ _ _,zac _ _ _,zac _ _ _,tv⟩ ⟨cnt (by omega),tv⟩
     ⟨Fz.r F1,zfw (zfy (μ:=sig [(2,10),(3,3),(4,4),(5,5),(6,6),(7,7)]) (i:=2) (j:=10) rfl c' _ ([]) ν rfl) (za1 (μ:=sig [(2,10),(3,3),(4,4),(5,5),(6,6),(7,7)]) (i:=3) (j:=3) rfl _ _).symm (za1 (μ:=sig [(2,10),(3,3),(4,4),(5,5),(6,6),(7,7)]) (i:=4) (j:=4) rfl _ _).symm (za1 (μ:=sig [(2,10),(3,3),(4,4),(5,5),(6,6),(7,7)]) (i:=5) (j:=5) rfl _ _).symm (za1 (μ:=sig [(2,10),(3,3),(4,4),(5,5),(6,6),(7,7)]) (i:=6) (j:=6) rfl _ _).symm (za1 (μ:=sig [(2,10),(3,3),(4,4),(5,5),(6,6),(7,7)]) (i:=7) (j:=7) rfl _ _).symm,zak (zfx [encI ν] rfl),zak (zah _ _),zak (zah _ _),zak (zah _ _),zak (zah _ _),zak (zah _ _),tv⟩⟩
   ·have hlen:=zen h1
    replace hlen:r.length + 1 ≤ k:=hlen
    conv=>whnf
    refine drawP hΘ mixed (lk [0,1,2,3,4,5,6,7] (.alt 8 (.alt 9 (.look 10 (.last 11 .done)) .nil) .nil)) [1,8] (by kernel_rfl) ?_;conv=>whnf
    repeat' ((conv=>whnf); first
     |refine ⟨rfl,?_⟩
     |refine ⟨Fz.r _,rfl,?_⟩
     |refine ⟨Fz.r _,rfl,rfl,?_⟩
     |refine ⟨⟨by simp,by simp⟩,?_⟩
     |fail)
    conv=>whnf
    refine ⟨qf 1,[encI ν],rfl,?_⟩;conv=>whnf
    refine ⟨rfl,rfl,by simp,rfl,by show (r.length + 1 + 1) * 8 ≤ 140737488355328; omega,fun c' hc=>?_⟩
    repeat' ((conv=>whnf); first
     |refine ⟨rfl,?_⟩
     |refine ⟨Fz.r _,rfl,?_⟩
     |refine ⟨Fz.r _,rfl,rfl,?_⟩
     |refine ⟨⟨by simp,by simp⟩,?_⟩
     |fail)
    conv=>whnf
    refine ⟨⟨(k + 1,(x :: r ++ [ν],c'),(s2,c2),(s3,c3),(s4,c4),(s5,c5),(s6,c6)),⟨gk,zc2 h1 gk hx,zaq h2 gk hx (by decide),zaq h3 gk hx (by decide),zaq h4 gk hx (by decide),zaq h5 gk hx (by decide),zaq h6 gk hx (by decide),h7⟩⟩,by show l.length - (k + 1) < l.length - k; omega,
     leR [(2,10),(3,3),(4,4),(5,5),(6,6),(7,7)] hH hT rfl ⟨tv,zds _ _ _ _ _ _ _ _ _ _ _ _,zac _ _ _,zac _ _ _,zac _ _ _,zac _ _ _,zac _ _ _,zac _ _ _,tv⟩ ⟨cnt (by omega),tv⟩
     ⟨Fz.r F1,zfw (zfy (μ:=sig [(2,10),(3,3),(4,4),(5,5),(6,6),(7,7)]) (i:=2) (j:=10) rfl c' _ (x :: r) ν rfl) (za1 (μ:=sig [(2,10),(3,3),(4,4),(5,5),(6,6),(7,7)]) (i:=3) (j:=3) rfl _ _).symm (za1 (μ:=sig [(2,10),(3,3),(4,4),(5,5),(6,6),(7,7)]) (i:=4) (j:=4) rfl _ _).symm (za1 (μ:=sig [(2,10),(3,3),(4,4),(5,5),(6,6),(7,7)]) (i:=5) (j:=5) rfl _ _).symm (za1 (μ:=sig [(2,10),(3,3),(4,4),(5,5),(6,6),(7,7)]) (i:=6) (j:=6) rfl _ _).symm (za1 (μ:=sig [(2,10),(3,3),(4,4),(5,5),(6,6),(7,7)]) (i:=7) (j:=7) rfl _ _).symm,zak (zfx _ (by simp)),zak (zah _ _),zak (zah _ _),zak (zah _ _),zak (zah _ _),zak (zah _ _),tv⟩⟩
  ·rcases s2 with _ | ⟨x,r⟩
   ·conv=>whnf
    refine drawP hΘ mixed (lk [0,1,2,3,4,5,6,7] (.alt 8 (.alt 9 (.look 10 (.last 11 .done)) .nil) .nil)) [1,8] (by kernel_rfl) ?_;conv=>whnf
    repeat' ((conv=>whnf); first
     |refine ⟨rfl,?_⟩
     |refine ⟨Fz.r _,rfl,?_⟩
     |refine ⟨Fz.r _,rfl,rfl,?_⟩
     |refine ⟨⟨by simp,by simp⟩,?_⟩
     |fail)
    conv=>whnf
    refine ⟨qf 1,[encI ν],rfl,?_⟩;conv=>whnf
    refine ⟨rfl,rfl,?_⟩;conv=>whnf
    refine ⟨by show 1 * 8 ≤ 140737488355328; omega,fun c' hc=>?_⟩
    repeat' ((conv=>whnf); first
     |refine ⟨rfl,?_⟩
     |refine ⟨Fz.r _,rfl,?_⟩
     |refine ⟨Fz.r _,rfl,rfl,?_⟩
     |refine ⟨⟨by simp,by simp⟩,?_⟩
     |fail)
    conv=>whnf
    refine ⟨⟨(k + 1,(s1,c1),([] ++ [ν],c'),(s3,c3),(s4,c4),(s5,c5),(s6,c6)),⟨gk,zaq h1 gk hx (by decide),zc2 h2 gk hx,zaq h3 gk hx (by decide),zaq h4 gk hx (by decide),zaq h5 gk hx (by decide),zaq h6 gk hx (by decide),h7⟩⟩,by show l.length - (k + 1) < l.length - k; omega,
     leR [(2,2),(3,10),(4,4),(5,5),(6,6),(7,7)] hH hT rfl ⟨tv,zds _ _ _ _ _ _ _ _ _ _ _ _,zac _ _ _,zac _ _ _,zac _ _ _,zac _ _ _,zac _ _ _,zac _ _ _,tv⟩ ⟨cnt (by omega),tv⟩
     ⟨Fz.r F1,zfw (za1 (μ:=sig [(2,2),(3,10),(4,4),(5,5),(6,6),(7,7)]) (i:=2) (j:=2) rfl _ _).symm (zfy (μ:=sig [(2,2),(3,10),(4,4),(5,5),(6,6),(7,7)]) (i:=3) (j:=10) rfl c' _ ([]) ν rfl) (za1 (μ:=sig [(2,2),(3,10),(4,4),(5,5),(6,6),(7,7)]) (i:=4) (j:=4) rfl _ _).symm (za1 (μ:=sig [(2,2),(3,10),(4,4),(5,5),(6,6),(7,7)]) (i:=5) (j:=5) rfl _ _).symm (za1 (μ:=sig [(2,2),(3,10),(4,4),(5,5),(6,6),(7,7)]) (i:=6) (j:=6) rfl _ _).symm (za1 (μ:=sig [(2,2),(3,10),(4,4),(5,5),(6,6),(7,7)]) (i:=7) (j:=7) rfl _ _).symm,zak (zah _ _),zak (zfx [encI ν] rfl),zak (zah _ _),zak (zah _ _),zak (zah _ _),zak (zah _ _),tv⟩⟩
   ·have hlen:=zen h2
    replace hlen:r.length + 1 ≤ k:=hlen
    conv=>whnf
    refine drawP hΘ mixed (lk [0,1,2,3,4,5,6,7] (.alt 8 (.alt 9 (.look 10 (.last 11 .done)) .nil) .nil)) [1,8] (by kernel_rfl) ?_;conv=>whnf
    repeat' ((conv=>whnf); first
     |refine ⟨rfl,?_⟩
     |refine ⟨Fz.r _,rfl,?_⟩
     |refine ⟨Fz.r _,rfl,rfl,?_⟩
     |refine ⟨⟨by simp,by simp⟩,?_⟩
     |fail)
    conv=>whnf
    refine ⟨qf 1,[encI ν],rfl,?_⟩;conv=>whnf
    refine ⟨rfl,rfl,by simp,rfl,by show (r.length + 1 + 1) * 8 ≤ 140737488355328; omega,fun c' hc=>?_⟩
    repeat' ((conv=>whnf); first
     |refine ⟨rfl,?_⟩
     |refine ⟨Fz.r _,rfl,?_⟩
     |refine ⟨Fz.r _,rfl,rfl,?_⟩
     |refine ⟨⟨by simp,by simp⟩,?_⟩
     |fail)
    conv=>whnf
    refine ⟨⟨(k + 1,(s1,c1),(x :: r ++ [ν],c'),(s3,c3),(s4,c4),(s5,c5),(s6,c6)),⟨gk,zaq h1 gk hx (by decide),zc2 h2 gk hx,zaq h3 gk hx (by decide),zaq h4 gk hx (by decide),zaq h5 gk hx (by decide),zaq h6 gk hx (by decide),h7⟩⟩,by show l.length - (k + 1) < l.length - k; omega,
     leR [(2,2),(3,10),(4,4),(5,5),(6,6),(7,7)] hH hT rfl ⟨tv,zds _ _ _ _ _ _ _ _ _ _ _ _,zac _ _ _,zac _ _ _,zac _ _ _,zac _ _ _,zac _ _ _,zac _ _ _,tv⟩ ⟨cnt (by omega),tv⟩
     ⟨Fz.r F1,zfw (za1 (μ:=sig [(2,2),(3,10),(4,4),(5,5),(6,6),(7,7)]) (i:=2) (j:=2) rfl _ _).symm (zfy (μ:=sig [(2,2),(3,10),(4,4),(5,5),(6,6),(7,7)]) (i:=3) (j:=10) rfl c' _ (x :: r) ν rfl) (za1 (μ:=sig [(2,2),(3,10),(4,4),(5,5),(6,6),(7,7)]) (i:=4) (j:=4) rfl _ _).symm (za1 (μ:=sig [(2,2),(3,10),(4,4),(5,5),(6,6),(7,7)]) (i:=5) (j:=5) rfl _ _).symm (za1 (μ:=sig [(2,2),(3,10),(4,4),(5,5),(6,6),(7,7)]) (i:=6) (j:=6) rfl _ _).symm (za1 (μ:=sig [(2,2),(3,10),(4,4),(5,5),(6,6),(7,7)]) (i:=7) (j:=7) rfl _ _).symm,zak (zah _ _),zak (zfx _ (by simp)),zak (zah _ _),zak (zah _ _),zak (zah _ _),zak (zah _ _),tv⟩⟩
  ·rcases s3 with _ | ⟨x,r⟩
   ·conv=>whnf
    refine drawP hΘ mixed (lk [0,1,2,3,4,5,6,7] (.alt 8 (.alt 9 (.look 10 (.last 11 .done)) .nil) .nil)) [1,8] (by kernel_rfl) ?_;conv=>whnf
    repeat' ((conv=>whnf); first
     |refine ⟨rfl,?_⟩
     |refine ⟨Fz.r _,rfl,?_⟩
     |refine ⟨Fz.r _,rfl,rfl,?_⟩
     |refine ⟨⟨by simp,by simp⟩,?_⟩
     |fail)
    conv=>whnf
    refine ⟨qf 1,[encI ν],rfl,?_⟩;conv=>whnf
    refine ⟨rfl,rfl,?_⟩;conv=>whnf
    refine ⟨by show 1 * 8 ≤ 140737488355328; omega,fun c' hc=>?_⟩
    repeat' ((conv=>whnf); first
     |refine ⟨rfl,?_⟩
     |refine ⟨Fz.r _,rfl,?_⟩
     |refine ⟨Fz.r _,rfl,rfl,?_⟩
     |refine ⟨⟨by simp,by simp⟩,?_⟩
     |fail)
    conv=>whnf
    refine ⟨⟨(k + 1,(s1,c1),(s2,c2),([] ++ [ν],c'),(s4,c4),(s5,c5),(s6,c6)),⟨gk,zaq h1 gk hx (by decide),zaq h2 gk hx (by decide),zc2 h3 gk hx,zaq h4 gk hx (by decide),zaq h5 gk hx (by decide),zaq h6 gk hx (by decide),h7⟩⟩,by show l.length - (k + 1) < l.length - k; omega,
     leR [(2,2),(3,3),(4,10),(5,5),(6,6),(7,7)] hH hT rfl ⟨tv,zds _ _ _ _ _ _ _ _ _ _ _ _,zac _ _ _,zac _ _ _,zac _ _ _,zac _ _ _,zac _ _ _,zac _ _ _,tv⟩ ⟨cnt (by omega),tv⟩
     ⟨Fz.r F1,zfw (za1 (μ:=sig [(2,2),(3,3),(4,10),(5,5),(6,6),(7,7)]) (i:=2) (j:=2) rfl _ _).symm (za1 (μ:=sig [(2,2),(3,3),(4,10),(5,5),(6,6),(7,7)]) (i:=3) (j:=3) rfl _ _).symm (zfy (μ:=sig [(2,2),(3,3),(4,10),(5,5),(6,6),(7,7)]) (i:=4) (j:=10) rfl c' _ ([]) ν rfl) (za1 (μ:=sig [(2,2),(3,3),(4,10),(5,5),(6,6),(7,7)]) (i:=5) (j:=5) rfl _ _).symm (za1 (μ:=sig [(2,2),(3,3),(4,10),(5,5),(6,6),(7,7)]) (i:=6) (j:=6) rfl _ _).symm (za1 (μ:=sig [(2,2),(3,3),(4,10),(5,5),(6,6),(7,7)]) (i:=7) (j:=7) rfl _ _).symm,zak (zah _ _),zak (zah _ _),zak (zfx [encI ν] rfl),zak (zah _ _),zak (zah _ _),zak (zah _ _),tv⟩⟩
   ·have hlen:=zen h3
    replace hlen:r.length + 1 ≤ k:=hlen
    conv=>whnf
    refine drawP hΘ mixed (lk [0,1,2,3,4,5,6,7] (.alt 8 (.alt 9 (.look 10 (.last 11 .done)) .nil) .nil)) [1,8] (by kernel_rfl) ?_;conv=>whnf
    repeat' ((conv=>whnf); first
     |refine ⟨rfl,?_⟩
     |refine ⟨Fz.r _,rfl,?_⟩
     |refine ⟨Fz.r _,rfl,rfl,?_⟩
     |refine ⟨⟨by simp,by simp⟩,?_⟩
     |fail)
    conv=>whnf
    refine ⟨qf 1,[encI ν],rfl,?_⟩;conv=>whnf
    refine ⟨rfl,rfl,by simp,rfl,by show (r.length + 1 + 1) * 8 ≤ 140737488355328; omega,fun c' hc=>?_⟩
    repeat' ((conv=>whnf); first
     |refine ⟨rfl,?_⟩
     |refine ⟨Fz.r _,rfl,?_⟩
     |refine ⟨Fz.r _,rfl,rfl,?_⟩
     |refine ⟨⟨by simp,by simp⟩,?_⟩
     |fail)
    conv=>whnf
    refine ⟨⟨(k + 1,(s1,c1),(s2,c2),(x :: r ++ [ν],c'),(s4,c4),(s5,c5),(s6,c6)),⟨gk,zaq h1 gk hx (by decide),zaq h2 gk hx (by decide),zc2 h3 gk hx,zaq h4 gk hx (by decide),zaq h5 gk hx (by decide),zaq h6 gk hx (by decide),h7⟩⟩,by show l.length - (k + 1) < l.length - k; omega,
     leR [(2,2),(3,3),(4,10),(5,5),(6,6),(7,7)] hH hT rfl ⟨tv,zds _ _ _ _ _ _ _ _ _ _ _ _,zac _ _ _,zac _ _ _,zac _ _ _,zac _ _ _,zac _ _ _,zac _ _ _,tv⟩ ⟨cnt (by omega),tv⟩
     ⟨Fz.r F1,zfw (za1 (μ:=sig [(2,2),(3,3),(4,10),(5,5),(6,6),(7,7)]) (i:=2) (j:=2) rfl _ _).symm (za1 (μ:=sig [(2,2),(3,3),(4,10),(5,5),(6,6),(7,7)]) (i:=3) (j:=3) rfl _ _).symm (zfy (μ:=sig [(2,2),(3,3),(4,10),(5,5),(6,6),(7,7)]) (i:=4) (j:=10) rfl c' _ (x :: r) ν rfl) (za1 (μ:=sig [(2,2),(3,3),(4,10),(5,5),(6,6),(7,7)]) (i:=5) (j:=5) rfl _ _).symm (za1 (μ:=sig [(2,2),(3,3),(4,10),(5,5),(6,6),(7,7)]) (i:=6) (j:=6) rfl _ _).symm (za1 (μ:=sig [(2,2),(3,3),(4,10),(5,5),(6,6),(7,7)]) (i:=7) (j:=7) rfl _ _).symm,zak (zah _ _),zak (zah _ _),zak (zfx _ (by simp)),zak (zah _ _),zak (zah _ _),zak (zah _ _),tv⟩⟩
  ·rcases s4 with _ | ⟨x,r⟩
   ·conv=>whnf
    refine drawP hΘ mixed (lk [0,1,2,3,4,5,6,7] (.alt 8 (.alt 9 (.look 10 (.last 11 .done)) .nil) .nil)) [1,8] (by kernel_rfl) ?_;conv=>whnf
    repeat' ((conv=>whnf); first
     |refine ⟨rfl,?_⟩
     |refine ⟨Fz.r _,rfl,?_⟩
     |refine ⟨Fz.r _,rfl,rfl,?_⟩
     |refine ⟨⟨by simp,by simp⟩,?_⟩
     |fail)
    conv=>whnf
    refine ⟨qf 1,[encI ν],rfl,?_⟩;conv=>whnf
    refine ⟨rfl,rfl,?_⟩;conv=>whnf
    refine ⟨by show 1 * 8 ≤ 140737488355328; omega,fun c' hc=>?_⟩
    repeat' ((conv=>whnf); first
     |refine ⟨rfl,?_⟩
     |refine ⟨Fz.r _,rfl,?_⟩
     |refine ⟨Fz.r _,rfl,rfl,?_⟩
     |refine ⟨⟨by simp,by simp⟩,?_⟩
     |fail)
    conv=>whnf
    refine ⟨⟨(k + 1,(s1,c1),(s2,c2),(s3,c3),([] ++ [ν],c'),(s5,c5),(s6,c6)),⟨gk,zaq h1 gk hx (by decide),zaq h2 gk hx (by decide),zaq h3 gk hx (by decide),zc2 h4 gk hx,zaq h5 gk hx (by decide),zaq h6 gk hx (by decide),h7⟩⟩,by show l.length - (k + 1) < l.length - k; omega,
     leR [(2,2),(3,3),(4,4),(5,10),(6,6),(7,7)] hH hT rfl ⟨tv,zds _ _ _ _ _ _ _ _ _ _ _ _,zac _ _ _,zac _ _ _,zac _ _ _,zac _ _ _,zac _ _ _,zac _ _ _,tv⟩ ⟨cnt (by omega),tv⟩
     ⟨Fz.r F1,zfw (za1 (μ:=sig [(2,2),(3,3),(4,4),(5,10),(6,6),(7,7)]) (i:=2) (j:=2) rfl _ _).symm (za1 (μ:=sig [(2,2),(3,3),(4,4),(5,10),(6,6),(7,7)]) (i:=3) (j:=3) rfl _ _).symm (za1 (μ:=sig [(2,2),(3,3),(4,4),(5,10),(6,6),(7,7)]) (i:=4) (j:=4) rfl _ _).symm (zfy (μ:=sig [(2,2),(3,3),(4,4),(5,10),(6,6),(7,7)]) (i:=5) (j:=10) rfl c' _ ([]) ν rfl) (za1 (μ:=sig [(2,2),(3,3),(4,4),(5,10),(6,6),(7,7)]) (i:=6) (j:=6) rfl _ _).symm (za1 (μ:=sig [(2,2),(3,3),(4,4),(5,10),(6,6),(7,7)]) (i:=7) (j:=7) rfl _ _).symm,zak (zah _ _),zak (zah _ _),zak (zah _ _),zak (zfx [encI ν] rfl),zak (zah _ _),zak (zah _ _),tv⟩⟩
   ·have hlen:=zen h4
    replace hlen:r.length + 1 ≤ k:=hlen
    conv=>whnf
    refine drawP hΘ mixed (lk [0,1,2,3,4,5,6,7] (.alt 8 (.alt 9 (.look 10 (.last 11 .done)) .nil) .nil)) [1,8] (by kernel_rfl) ?_;conv=>whnf
    repeat' ((conv=>whnf); first
     |refine ⟨rfl,?_⟩
     |refine ⟨Fz.r _,rfl,?_⟩
     |refine ⟨Fz.r _,rfl,rfl,?_⟩
     |refine ⟨⟨by simp,by simp⟩,?_⟩
     |fail)
    conv=>whnf
    refine ⟨qf 1,[encI ν],rfl,?_⟩;conv=>whnf
    refine ⟨rfl,rfl,by simp,rfl,by show (r.length + 1 + 1) * 8 ≤ 140737488355328; omega,fun c' hc=>?_⟩
    repeat' ((conv=>whnf); first
     |refine ⟨rfl,?_⟩
     |refine ⟨Fz.r _,rfl,?_⟩
     |refine ⟨Fz.r _,rfl,rfl,?_⟩
     |refine ⟨⟨by simp,by simp⟩,?_⟩
     |fail)
    conv=>whnf
    refine ⟨⟨(k + 1,(s1,c1),(s2,c2),(s3,c3),(x :: r ++ [ν],c'),(s5,c5),(s6,c6)),⟨gk,zaq h1 gk hx (by decide),zaq h2 gk hx (by decide),zaq h3 gk hx (by decide),zc2 h4 gk hx,zaq h5 gk hx (by decide),zaq h6 gk hx (by decide),h7⟩⟩,by show l.length - (k + 1) < l.length - k; omega,
     leR [(2,2),(3,3),(4,4),(5,10),(6,6),(7,7)] hH hT rfl ⟨tv,zds _ _ _ _ _ _ _ _ _ _ _ _,zac _ _ _,zac _ _ _,zac _ _ _,zac _ _ _,zac _ _ _,zac _ _ _,tv⟩ ⟨cnt (by omega),tv⟩
     ⟨Fz.r F1,zfw (za1 (μ:=sig [(2,2),(3,3),(4,4),(5,10),(6,6),(7,7)]) (i:=2) (j:=2) rfl _ _).symm (za1 (μ:=sig [(2,2),(3,3),(4,4),(5,10),(6,6),(7,7)]) (i:=3) (j:=3) rfl _ _).symm (za1 (μ:=sig [(2,2),(3,3),(4,4),(5,10),(6,6),(7,7)]) (i:=4) (j:=4) rfl _ _).symm (zfy (μ:=sig [(2,2),(3,3),(4,4),(5,10),(6,6),(7,7)]) (i:=5) (j:=10) rfl c' _ (x :: r) ν rfl) (za1 (μ:=sig [(2,2),(3,3),(4,4),(5,10),(6,6),(7,7)]) (i:=6) (j:=6) rfl _ _).symm (za1 (μ:=sig [(2,2),(3,3),(4,4),(5,10),(6,6),(7,7)]) (i:=7) (j:=7) rfl _ _).symm,zak (zah _ _),zak (zah _ _),zak (zah _ _),zak (zfx _ (by simp)),zak (zah _ _),zak (zah _ _),tv⟩⟩
  ·rcases s5 with _ | ⟨x,r⟩
   ·conv=>whnf
    refine drawP hΘ mixed (lk [0,1,2,3,4,5,6,7] (.alt 8 (.alt 9 (.look 10 (.last 11 .done)) .nil) .nil)) [1,8] (by kernel_rfl) ?_;conv=>whnf
    repeat' ((conv=>whnf); first
     |refine ⟨rfl,?_⟩
     |refine ⟨Fz.r _,rfl,?_⟩
     |refine ⟨Fz.r _,rfl,rfl,?_⟩
     |refine ⟨⟨by simp,by simp⟩,?_⟩
     |fail)
    conv=>whnf
    refine ⟨qf 1,[encI ν],rfl,?_⟩;conv=>whnf
    refine ⟨rfl,rfl,?_⟩;conv=>whnf
    refine ⟨by show 1 * 8 ≤ 140737488355328; omega,fun c' hc=>?_⟩
    repeat' ((conv=>whnf); first
     |refine ⟨rfl,?_⟩
     |refine ⟨Fz.r _,rfl,?_⟩
     |refine ⟨Fz.r _,rfl,rfl,?_⟩
     |refine ⟨⟨by simp,by simp⟩,?_⟩
     |fail)
    conv=>whnf
    refine ⟨⟨(k + 1,(s1,c1),(s2,c2),(s3,c3),(s4,c4),([] ++ [ν],c'),(s6,c6)),⟨gk,zaq h1 gk hx (by decide),zaq h2 gk hx (by decide),zaq h3 gk hx (by decide),zaq h4 gk hx (by decide),zc2 h5 gk hx,zaq h6 gk hx (by decide),(by simpa using hc)⟩⟩,by show l.length - (k + 1) < l.length - k; omega,
     leR [(2,2),(3,3),(4,4),(5,5),(6,10),(7,7)] hH hT rfl ⟨tv,zds _ _ _ _ _ _ _ _ _ _ _ _,zac _ _ _,zac _ _ _,zac _ _ _,zac _ _ _,zac _ _ _,zac _ _ _,tv⟩ ⟨cnt (by omega),tv⟩
     ⟨Fz.r F1,zfw (za1 (μ:=sig [(2,2),(3,3),(4,4),(5,5),(6,10),(7,7)]) (i:=2) (j:=2) rfl _ _).symm (za1 (μ:=sig [(2,2),(3,3),(4,4),(5,5),(6,10),(7,7)]) (i:=3) (j:=3) rfl _ _).symm (za1 (μ:=sig [(2,2),(3,3),(4,4),(5,5),(6,10),(7,7)]) (i:=4) (j:=4) rfl _ _).symm (za1 (μ:=sig [(2,2),(3,3),(4,4),(5,5),(6,10),(7,7)]) (i:=5) (j:=5) rfl _ _).symm (zfy (μ:=sig [(2,2),(3,3),(4,4),(5,5),(6,10),(7,7)]) (i:=6) (j:=10) rfl c' _ ([]) ν rfl) (za1 (μ:=sig [(2,2),(3,3),(4,4),(5,5),(6,10),(7,7)]) (i:=7) (j:=7) rfl _ _).symm,zak (zah _ _),zak (zah _ _),zak (zah _ _),zak (zah _ _),zak (zfx [encI ν] rfl),zak (zah _ _),tv⟩⟩
   ·have hlen:=zen h5
    replace hlen:r.length + 1 ≤ k:=hlen
    conv=>whnf
    refine drawP hΘ mixed (lk [0,1,2,3,4,5,6,7] (.alt 8 (.alt 9 (.look 10 (.last 11 .done)) .nil) .nil)) [1,8] (by kernel_rfl) ?_;conv=>whnf
    repeat' ((conv=>whnf); first
     |refine ⟨rfl,?_⟩
     |refine ⟨Fz.r _,rfl,?_⟩
     |refine ⟨Fz.r _,rfl,rfl,?_⟩
     |refine ⟨⟨by simp,by simp⟩,?_⟩
     |fail)
    conv=>whnf
    refine ⟨qf 1,[encI ν],rfl,?_⟩;conv=>whnf
    refine ⟨rfl,rfl,by simp,rfl,by show (r.length + 1 + 1) * 8 ≤ 140737488355328; omega,fun c' hc=>?_⟩
    repeat' ((conv=>whnf); first
     |refine ⟨rfl,?_⟩
     |refine ⟨Fz.r _,rfl,?_⟩
     |refine ⟨Fz.r _,rfl,rfl,?_⟩
     |refine ⟨⟨by simp,by simp⟩,?_⟩
     |fail)
    conv=>whnf
    refine ⟨⟨(k + 1,(s1,c1),(s2,c2),(s3,c3),(s4,c4),(x :: r ++ [ν],c'),(s6,c6)),⟨gk,zaq h1 gk hx (by decide),zaq h2 gk hx (by decide),zaq h3 gk hx (by decide),zaq h4 gk hx (by decide),zc2 h5 gk hx,zaq h6 gk hx (by decide),(by simpa using hc)⟩⟩,by show l.length - (k + 1) < l.length - k; omega,
     leR [(2,2),(3,3),(4,4),(5,5),(6,10),(7,7)] hH hT rfl ⟨tv,zds _ _ _ _ _ _ _ _ _ _ _ _,zac _ _ _,zac _ _ _,zac _ _ _,zac _ _ _,zac _ _ _,zac _ _ _,tv⟩ ⟨cnt (by omega),tv⟩
     ⟨Fz.r F1,zfw (za1 (μ:=sig [(2,2),(3,3),(4,4),(5,5),(6,10),(7,7)]) (i:=2) (j:=2) rfl _ _).symm (za1 (μ:=sig [(2,2),(3,3),(4,4),(5,5),(6,10),(7,7)]) (i:=3) (j:=3) rfl _ _).symm (za1 (μ:=sig [(2,2),(3,3),(4,4),(5,5),(6,10),(7,7)]) (i:=4) (j:=4) rfl _ _).symm (za1 (μ:=sig [(2,2),(3,3),(4,4),(5,5),(6,10),(7,7)]) (i:=5) (j:=5) rfl _ _).symm (zfy (μ:=sig [(2,2),(3,3),(4,4),(5,5),(6,10),(7,7)]) (i:=6) (j:=10) rfl c' _ (x :: r) ν rfl) (za1 (μ:=sig [(2,2),(3,3),(4,4),(5,5),(6,10),(7,7)]) (i:=7) (j:=7) rfl _ _).symm,zak (zah _ _),zak (zah _ _),zak (zah _ _),zak (zah _ _),zak (zfx _ (by simp)),zak (zah _ _),tv⟩⟩
  ·rcases s6 with _ | ⟨x,r⟩
   ·conv=>whnf
    refine drawP hΘ mixed (lk [0,1,2,3,4,5,6,7] (.alt 8 (.alt 9 (.look 10 (.last 11 .done)) .nil) .nil)) [1,8] (by kernel_rfl) ?_;conv=>whnf
    repeat' ((conv=>whnf); first
     |refine ⟨rfl,?_⟩
     |refine ⟨Fz.r _,rfl,?_⟩
     |refine ⟨Fz.r _,rfl,rfl,?_⟩
     |refine ⟨⟨by simp,by simp⟩,?_⟩
     |fail)
    conv=>whnf
    refine ⟨qf 1,[encI ν],rfl,?_⟩;conv=>whnf
    refine ⟨rfl,rfl,?_⟩;conv=>whnf
    refine ⟨by show 1 * 8 ≤ 140737488355328; omega,fun c' hc=>?_⟩
    repeat' ((conv=>whnf); first
     |refine ⟨rfl,?_⟩
     |refine ⟨Fz.r _,rfl,?_⟩
     |refine ⟨Fz.r _,rfl,rfl,?_⟩
     |refine ⟨⟨by simp,by simp⟩,?_⟩
     |fail)
    conv=>whnf
    refine ⟨⟨(k + 1,(s1,c1),(s2,c2),(s3,c3),(s4,c4),(s5,c5),([] ++ [ν],c')),⟨gk,zaq h1 gk hx (by decide),zaq h2 gk hx (by decide),zaq h3 gk hx (by decide),zaq h4 gk hx (by decide),zaq h5 gk hx (by decide),zc2 h6 gk hx,h7⟩⟩,by show l.length - (k + 1) < l.length - k; omega,
     leR [(2,2),(3,3),(4,4),(5,5),(6,6),(7,10)] hH hT rfl ⟨tv,zds _ _ _ _ _ _ _ _ _ _ _ _,zac _ _ _,zac _ _ _,zac _ _ _,zac _ _ _,zac _ _ _,zac _ _ _,tv⟩ ⟨cnt (by omega),tv⟩
     ⟨Fz.r F1,zfw (za1 (μ:=sig [(2,2),(3,3),(4,4),(5,5),(6,6),(7,10)]) (i:=2) (j:=2) rfl _ _).symm (za1 (μ:=sig [(2,2),(3,3),(4,4),(5,5),(6,6),(7,10)]) (i:=3) (j:=3) rfl _ _).symm (za1 (μ:=sig [(2,2),(3,3),(4,4),(5,5),(6,6),(7,10)]) (i:=4) (j:=4) rfl _ _).symm (za1 (μ:=sig [(2,2),(3,3),(4,4),(5,5),(6,6),(7,10)]) (i:=5) (j:=5) rfl _ _).symm (za1 (μ:=sig [(2,2),(3,3),(4,4),(5,5),(6,6),(7,10)]) (i:=6) (j:=6) rfl _ _).symm (zfy (μ:=sig [(2,2),(3,3),(4,4),(5,5),(6,6),(7,10)]) (i:=7) (j:=10) rfl c' _ ([]) ν rfl),zak (zah _ _),zak (zah _ _),zak (zah _ _),zak (zah _ _),zak (zah _ _),zak (zfx [encI ν] rfl),tv⟩⟩
   ·have hlen:=zen h6
    replace hlen:r.length + 1 ≤ k:=hlen
    conv=>whnf
    refine drawP hΘ mixed (lk [0,1,2,3,4,5,6,7] (.alt 8 (.alt 9 (.look 10 (.last 11 .done)) .nil) .nil)) [1,8] (by kernel_rfl) ?_;conv=>whnf
    repeat' ((conv=>whnf); first
     |refine ⟨rfl,?_⟩
     |refine ⟨Fz.r _,rfl,?_⟩
     |refine ⟨Fz.r _,rfl,rfl,?_⟩
     |refine ⟨⟨by simp,by simp⟩,?_⟩
     |fail)
    conv=>whnf
    refine ⟨qf 1,[encI ν],rfl,?_⟩;conv=>whnf
    refine ⟨rfl,rfl,by simp,rfl,by show (r.length + 1 + 1) * 8 ≤ 140737488355328; omega,fun c' hc=>?_⟩
    repeat' ((conv=>whnf); first
     |refine ⟨rfl,?_⟩
     |refine ⟨Fz.r _,rfl,?_⟩
     |refine ⟨Fz.r _,rfl,rfl,?_⟩
     |refine ⟨⟨by simp,by simp⟩,?_⟩
     |fail)
    conv=>whnf
    refine ⟨⟨(k + 1,(s1,c1),(s2,c2),(s3,c3),(s4,c4),(s5,c5),(x :: r ++ [ν],c')),⟨gk,zaq h1 gk hx (by decide),zaq h2 gk hx (by decide),zaq h3 gk hx (by decide),zaq h4 gk hx (by decide),zaq h5 gk hx (by decide),zc2 h6 gk hx,h7⟩⟩,by show l.length - (k + 1) < l.length - k; omega,
     leR [(2,2),(3,3),(4,4),(5,5),(6,6),(7,10)] hH hT rfl ⟨tv,zds _ _ _ _ _ _ _ _ _ _ _ _,zac _ _ _,zac _ _ _,zac _ _ _,zac _ _ _,zac _ _ _,zac _ _ _,tv⟩ ⟨cnt (by omega),tv⟩
     ⟨Fz.r F1,zfw (za1 (μ:=sig [(2,2),(3,3),(4,4),(5,5),(6,6),(7,10)]) (i:=2) (j:=2) rfl _ _).symm (za1 (μ:=sig [(2,2),(3,3),(4,4),(5,5),(6,6),(7,10)]) (i:=3) (j:=3) rfl _ _).symm (za1 (μ:=sig [(2,2),(3,3),(4,4),(5,5),(6,6),(7,10)]) (i:=4) (j:=4) rfl _ _).symm (za1 (μ:=sig [(2,2),(3,3),(4,4),(5,5),(6,6),(7,10)]) (i:=5) (j:=5) rfl _ _).symm (za1 (μ:=sig [(2,2),(3,3),(4,4),(5,5),(6,6),(7,10)]) (i:=6) (j:=6) rfl _ _).symm (zfy (μ:=sig [(2,2),(3,3),(4,4),(5,5),(6,6),(7,10)]) (i:=7) (j:=10) rfl c' _ (x :: r) ν rfl),zak (zah _ _),zak (zah _ _),zak (zah _ _),zak (zah _ _),zak (zah _ _),zak (zfx _ (by simp)),tv⟩⟩
 ·have gk : k = l.length := by have g1 : ¬ k < l.length := by simpa using gb
                               have:=hk
                               omega
  have e1:s1 = sel 1 l:=by have:=h1; rw [gk,yr] at this; exact this
  have e2:s2 = sel 2 l:=by have:=h2; rw [gk,yr] at this; exact this
  have e3:s3 = sel 3 l:=by have:=h3; rw [gk,yr] at this; exact this
  have e4:s4 = sel 4 l:=by have:=h4; rw [gk,yr] at this; exact this
  have e5:s5 = sel 5 l:=by have:=h5; rw [gk,yr] at this; exact this
  have e6:s6 = sel 6 l:=by have:=h6; rw [gk,yr] at this; exact this
  rcases s6 with _ | ⟨x6,r6⟩
  ·conv=>whnf
   refine ⟨⟨by decide,by decide⟩,?_⟩;conv=>whnf
   refine brd (by decide) ?_;conv=>whnf
   refine zan hΘ (X:={ x:Nat × List Stp × Nat // x.1 ≤ 7 ∧ x.2.1 = ((pieces s1 s2 s3 s4 s5).take x.1).flatten }) (fun x=>[(6,.va (oA 8 x.1.2.2 x.1.2.1)),(37,.va (.int .i64 x.1.1))]) [7,8,10,38,39,40,41,42,43,44,45,46,47,48,49,50,51,52,53,54,55,56,57,58,59,60,61,62,63,64,65,66,67,68,69,70,71,72,73,74,75]
    (fun x=>[(0,.frz F1),(2,iE c1 s1),(3,iE c2 s2),(4,iE c3 s3),(5,iE c4 s4),(6,iE c5 s5),(8,oE x.1.2.2 x.1.2.1)]) 9 (fun x=>7 - x.1.1) ⟨(0,[],0),by simp⟩
    (fun hH hT=>leI [(8,8)] hH hT rfl ⟨tv,zac _ _ _,zac _ _ _,zac _ _ _,zac _ _ _,zac _ _ _,zbt _ _ _,tv⟩ ⟨rfl,rfl,tv⟩ ⟨Fz.r F1,zak (zah _ _),zak (zah _ _),zak (zah _ _),zak (zah _ _),zak (zah _ _),rfl,tv⟩) ?_
   rintro ⟨⟨k2,out,co⟩,hk2,hout⟩ hH hT
   replace hk2:k2 ≤ 7:=hk2
   replace hout:out = ((pieces s1 s2 s3 s4 s5).take k2).flatten:=hout
   conv=>whnf
   refine br (fun gb2=>?_) (fun gb2=>?_)
   ·have gk2 : k2 < 7 := by have : (k2 : Int) < 7 := by simpa using gb2
                            omega
    clear gb2
    have hcs:k2 = 0 ∨ k2 = 1 ∨ k2 = 2 ∨ k2 = 3 ∨ k2 = 4 ∨ k2 = 5 ∨ k2 = 6:=by omega
    have same:∀ k,(pieces s1 s2 s3 s4 s5)[k]? = some [] → out = ((pieces s1 s2 s3 s4 s5).take k).flatten → out = ((pieces s1 s2 s3 s4 s5).take (k + 1)).flatten:=fun k h1 h2=>by
     have:=zdq [] h2 h1; rwa [jw] at this
    rcases hcs with rfl | rfl | rfl | rfl | rfl | rfl | rfl
    ·rcases out with _ | ⟨xo,ro⟩
     all_goals (conv=>whnf)
     all_goals refine ⟨⟨by simp,by simp⟩,_,rfl,?_⟩
     all_goals (conv=>whnf)
     all_goals refine bre (by decide) ?_
     all_goals (conv=>whnf)
     all_goals exact ⟨⟨(1,_,co),by simp,same 0 rfl hout⟩,by show 7 - 1 < 7 - 0; omega,leR [(8,8)] hH hT rfl ⟨tv,zac _ _ _,zac _ _ _,zac _ _ _,zac _ _ _,zac _ _ _,zbt _ _ _,tv⟩ ⟨(by first | exact rfl | exact ⟨rfl,rfl,rfl,.inr ⟨rfl,rfl,rfl,rfl⟩⟩),rfl,tv⟩ ⟨Fz.r F1,zak (zah _ _),zak (zah _ _),zak (zah _ _),zak (zah _ _),zak (zah _ _),zcy (zet _ _),tv⟩⟩
    ·rcases s1 with _ | ⟨x,r⟩
     ·rcases out with _ | ⟨xo,ro⟩
      all_goals (conv=>whnf)
      all_goals refine ⟨⟨by simp,by simp⟩,_,rfl,?_⟩
      all_goals (conv=>whnf)
      all_goals refine bre (by decide) ?_
      all_goals (conv=>whnf)
      all_goals exact ⟨⟨(2,_,co),by simp,same 1 rfl hout⟩,by show 7 - 2 < 7 - 1; omega,leR [(8,8)] hH hT rfl ⟨tv,zac _ _ _,zac _ _ _,zac _ _ _,zac _ _ _,zac _ _ _,zbt _ _ _,tv⟩ ⟨(by first | exact rfl | exact ⟨rfl,rfl,rfl,.inr ⟨rfl,rfl,rfl,rfl⟩⟩),rfl,tv⟩ ⟨Fz.r F1,zak (zah _ _),zak (zah _ _),zak (zah _ _),zak (zah _ _),zak (zah _ _),zcy (zet _ _),tv⟩⟩
     ·have hle:=zen h1
      replace hle:r.length + 1 ≤ k:=hle
      have hout':=zdq [(1,mn (x :: r))] hout (congrArg some (zjt (by decide) (by decide)))
      have hol:out.length ≤ 100:=by rw [hout]; exact zeb _ _ _ _ _ _
      rcases out with _ | ⟨xo,ro⟩
      ·conv=>whnf
       refine ⟨⟨by simp,by simp⟩,_,rfl,?_⟩;conv=>whnf
       refine br (fun g=>absurd g (by simp; omega)) (fun _=>?_);conv=>whnf
       refine brd (by simp) ?_;conv=>whnf
       refine brd (by simp) ?_;conv=>whnf
       refine borrow 2 (fun _=>.arr 3 1 ((x :: r).map encI) c1) rfl rfl rfl (fun _ _=>zbu _ (x :: r) _) (fun _ _=>za8 _ _ _) ?_
       intro b F' hle' hb
       refine usePu (zln F' _ (x :: r) (Sl.new (hb 0 ⟨rfl,rfl⟩)) (by simp; omega) (by simp)) rfl ⟨⟨rfl,rfl,rfl,.inr ⟨rfl,rfl,rfl,rfl⟩⟩,tv⟩ rfl ?_
       refine ⟨F',rfl,Fz.r _,rfl,fun _ _ _ _ _ _ h=>h,?_⟩;conv=>whnf
       refine rounds hΘ 2 ?_;conv=>whnf
       refine bre (by decide) ?_;conv=>whnf
       refine ⟨rfl,⟨by decide,by decide⟩,?_⟩;conv=>whnf
       refine ⟨_,rfl,?_⟩;conv=>whnf
       refine ⟨qf 1,[enc (1,mn (x :: r))],rfl,?_⟩;conv=>whnf
       refine ⟨rfl,rfl,?_⟩;conv=>whnf
       refine ⟨by show 1 * 16 ≤ 140737488355328; omega,fun c' hc=>?_⟩;conv=>whnf
       refine brd (by decide) ?_;conv=>whnf
       exact ⟨⟨(2,[] ++ [(1,mn (x :: r))],c'),by simp,hout'⟩,by show 7 - 2 < 7 - 1; omega,leR [(8,11)] hH hT rfl ⟨tv,zac _ _ _,zac _ _ _,zac _ _ _,zac _ _ _,zac _ _ _,zbt _ _ _,tv⟩ ⟨(zgp (μ:=sig [(8,11)]) (i:=8) (j:=11) rfl c' _ [] (1,mn (x :: r)) rfl),rfl,tv⟩ ⟨Fz.r F1,zak (zah _ _),zak (zah _ _),zak (zah _ _),zak (zah _ _),zak (zah _ _),zcy (zgo [enc (1,mn (x :: r))] rfl),tv⟩⟩
      ·replace hol:ro.length + 1 ≤ 100:=hol
       conv=>whnf
       refine ⟨⟨by simp,by simp⟩,_,rfl,?_⟩;conv=>whnf
       refine br (fun g=>absurd g (by simp; omega)) (fun _=>?_);conv=>whnf
       refine brd (by simp) ?_;conv=>whnf
       refine brd (by simp) ?_;conv=>whnf
       refine borrow 2 (fun _=>.arr 3 1 ((x :: r).map encI) c1) rfl rfl rfl (fun _ _=>zbu _ (x :: r) _) (fun _ _=>za8 _ _ _) ?_
       intro b F' hle' hb
       refine usePu (zln F' _ (x :: r) (Sl.new (hb 0 ⟨rfl,rfl⟩)) (by simp; omega) (by simp)) rfl ⟨⟨rfl,rfl,rfl,.inr ⟨rfl,rfl,rfl,rfl⟩⟩,tv⟩ rfl ?_
       refine ⟨F',rfl,Fz.r _,rfl,fun _ _ _ _ _ _ h=>h,?_⟩;conv=>whnf
       refine rounds hΘ 2 ?_;conv=>whnf
       refine bre (by decide) ?_;conv=>whnf
       refine ⟨rfl,⟨by decide,by decide⟩,?_⟩;conv=>whnf
       refine ⟨_,rfl,?_⟩;conv=>whnf
       refine ⟨qf 1,[enc (1,mn (x :: r))],rfl,?_⟩;conv=>whnf
       refine ⟨rfl,rfl,by simp,rfl,by show (ro.length + 1 + 1) * 16 ≤ 140737488355328; omega,fun c' hc=>?_⟩;conv=>whnf
       refine brd (by decide) ?_;conv=>whnf
       exact ⟨⟨(2,(xo :: ro) ++ [(1,mn (x :: r))],c'),by simp,hout'⟩,by show 7 - 2 < 7 - 1; omega,leR [(8,11)] hH hT rfl ⟨tv,zac _ _ _,zac _ _ _,zac _ _ _,zac _ _ _,zac _ _ _,zbt _ _ _,tv⟩ ⟨(zgp (μ:=sig [(8,11)]) (i:=8) (j:=11) rfl c' _ (xo :: ro) (1,mn (x :: r)) rfl),rfl,tv⟩ ⟨Fz.r F1,zak (zah _ _),zak (zah _ _),zak (zah _ _),zak (zah _ _),zak (zah _ _),zcy (zgo _ (by simp)),tv⟩⟩
    ·rcases s2 with _ | ⟨x,r⟩
     ·rcases out with _ | ⟨xo,ro⟩
      all_goals (conv=>whnf)
      all_goals refine ⟨⟨by simp,by simp⟩,_,rfl,?_⟩
      all_goals (conv=>whnf)
      all_goals refine bre (by decide) ?_
      all_goals (conv=>whnf)
      all_goals exact ⟨⟨(3,_,co),by simp,same 2 rfl hout⟩,by show 7 - 3 < 7 - 2; omega,leR [(8,8)] hH hT rfl ⟨tv,zac _ _ _,zac _ _ _,zac _ _ _,zac _ _ _,zac _ _ _,zbt _ _ _,tv⟩ ⟨(by first | exact rfl | exact ⟨rfl,rfl,rfl,.inr ⟨rfl,rfl,rfl,rfl⟩⟩),rfl,tv⟩ ⟨Fz.r F1,zak (zah _ _),zak (zah _ _),zak (zah _ _),zak (zah _ _),zak (zah _ _),zcy (zet _ _),tv⟩⟩
     ·have hle:=zen h2
      replace hle:r.length + 1 ≤ k:=hle
      have hout':=zdq [(2,mn (x :: r))] hout (congrArg some (zjt (by decide) (by decide)))
      have hol:out.length ≤ 100:=by rw [hout]; exact zeb _ _ _ _ _ _
      rcases out with _ | ⟨xo,ro⟩
      ·conv=>whnf
       refine ⟨⟨by simp,by simp⟩,_,rfl,?_⟩;conv=>whnf
       refine br (fun g=>absurd g (by simp; omega)) (fun _=>?_);conv=>whnf
       refine brd (by simp) ?_;conv=>whnf
       refine brd (by simp) ?_;conv=>whnf
       refine borrow 3 (fun _=>.arr 3 1 ((x :: r).map encI) c2) rfl rfl rfl (fun _ _=>zbu _ (x :: r) _) (fun _ _=>za8 _ _ _) ?_
       intro b F' hle' hb
       refine usePu (zln F' _ (x :: r) (Sl.new (hb 0 ⟨rfl,rfl⟩)) (by simp; omega) (by simp)) rfl ⟨⟨rfl,rfl,rfl,.inr ⟨rfl,rfl,rfl,rfl⟩⟩,tv⟩ rfl ?_
       refine ⟨F',rfl,Fz.r _,rfl,fun _ _ _ _ _ _ h=>h,?_⟩;conv=>whnf
       refine rounds hΘ 2 ?_;conv=>whnf
       refine bre (by decide) ?_;conv=>whnf
       refine ⟨rfl,⟨by decide,by decide⟩,?_⟩;conv=>whnf
       refine ⟨_,rfl,?_⟩;conv=>whnf
       refine ⟨qf 1,[enc (2,mn (x :: r))],rfl,?_⟩;conv=>whnf
       refine ⟨rfl,rfl,?_⟩;conv=>whnf
       refine ⟨by show 1 * 16 ≤ 140737488355328; omega,fun c' hc=>?_⟩;conv=>whnf
       refine brd (by decide) ?_;conv=>whnf
       exact ⟨⟨(3,[] ++ [(2,mn (x :: r))],c'),by simp,hout'⟩,by show 7 - 3 < 7 - 2; omega,leR [(8,11)] hH hT rfl ⟨tv,zac _ _ _,zac _ _ _,zac _ _ _,zac _ _ _,zac _ _ _,zbt _ _ _,tv⟩ ⟨(zgp (μ:=sig [(8,11)]) (i:=8) (j:=11) rfl c' _ [] (2,mn (x :: r)) rfl),rfl,tv⟩ ⟨Fz.r F1,zak (zah _ _),zak (zah _ _),zak (zah _ _),zak (zah _ _),zak (zah _ _),zcy (zgo [enc (2,mn (x :: r))] rfl),tv⟩⟩
      ·replace hol:ro.length + 1 ≤ 100:=hol
       conv=>whnf
       refine ⟨⟨by simp,by simp⟩,_,rfl,?_⟩;conv=>whnf
       refine br (fun g=>absurd g (by simp; omega)) (fun _=>?_);conv=>whnf
       refine brd (by simp) ?_;conv=>whnf
       refine brd (by simp) ?_;conv=>whnf
       refine borrow 3 (fun _=>.arr 3 1 ((x :: r).map encI) c2) rfl rfl rfl (fun _ _=>zbu _ (x :: r) _) (fun _ _=>za8 _ _ _) ?_
       intro b F' hle' hb
       refine usePu (zln F' _ (x :: r) (Sl.new (hb 0 ⟨rfl,rfl⟩)) (by simp; omega) (by simp)) rfl ⟨⟨rfl,rfl,rfl,.inr ⟨rfl,rfl,rfl,rfl⟩⟩,tv⟩ rfl ?_
       refine ⟨F',rfl,Fz.r _,rfl,fun _ _ _ _ _ _ h=>h,?_⟩;conv=>whnf
       refine rounds hΘ 2 ?_;conv=>whnf
       refine bre (by decide) ?_;conv=>whnf
       refine ⟨rfl,⟨by decide,by decide⟩,?_⟩;conv=>whnf
       refine ⟨_,rfl,?_⟩;conv=>whnf
       refine ⟨qf 1,[enc (2,mn (x :: r))],rfl,?_⟩;conv=>whnf
       refine ⟨rfl,rfl,by simp,rfl,by show (ro.length + 1 + 1) * 16 ≤ 140737488355328; omega,fun c' hc=>?_⟩;conv=>whnf
       refine brd (by decide) ?_;conv=>whnf
       exact ⟨⟨(3,(xo :: ro) ++ [(2,mn (x :: r))],c'),by simp,hout'⟩,by show 7 - 3 < 7 - 2; omega,leR [(8,11)] hH hT rfl ⟨tv,zac _ _ _,zac _ _ _,zac _ _ _,zac _ _ _,zac _ _ _,zbt _ _ _,tv⟩ ⟨(zgp (μ:=sig [(8,11)]) (i:=8) (j:=11) rfl c' _ (xo :: ro) (2,mn (x :: r)) rfl),rfl,tv⟩ ⟨Fz.r F1,zak (zah _ _),zak (zah _ _),zak (zah _ _),zak (zah _ _),zak (zah _ _),zcy (zgo _ (by simp)),tv⟩⟩
    ·rcases s3 with _ | ⟨x,r⟩
     ·rcases out with _ | ⟨xo,ro⟩
      all_goals (conv=>whnf)
      all_goals refine ⟨⟨by simp,by simp⟩,_,rfl,?_⟩
      all_goals (conv=>whnf)
      all_goals refine bre (by decide) ?_
      all_goals (conv=>whnf)
      all_goals exact ⟨⟨(4,_,co),by simp,same 3 rfl hout⟩,by show 7 - 4 < 7 - 3; omega,leR [(8,8)] hH hT rfl ⟨tv,zac _ _ _,zac _ _ _,zac _ _ _,zac _ _ _,zac _ _ _,zbt _ _ _,tv⟩ ⟨(by first | exact rfl | exact ⟨rfl,rfl,rfl,.inr ⟨rfl,rfl,rfl,rfl⟩⟩),rfl,tv⟩ ⟨Fz.r F1,zak (zah _ _),zak (zah _ _),zak (zah _ _),zak (zah _ _),zak (zah _ _),zcy (zet _ _),tv⟩⟩
     ·have hle:=zen h3
      replace hle:r.length + 1 ≤ k:=hle
      have hout':=zdq [(3,mx (x :: r))] hout rfl
      have hol:out.length ≤ 100:=by rw [hout]; exact zeb _ _ _ _ _ _
      rcases out with _ | ⟨xo,ro⟩
      ·conv=>whnf
       refine ⟨⟨by simp,by simp⟩,_,rfl,?_⟩;conv=>whnf
       refine br (fun g=>absurd g (by simp; omega)) (fun _=>?_);conv=>whnf
       refine bre (by simp) ?_;conv=>whnf
       conv=>whnf
       refine borrow 4 (fun _=>.arr 3 1 ((x :: r).map encI) c3) rfl rfl rfl (fun _ _=>zbu _ (x :: r) _) (fun _ _=>za8 _ _ _) ?_
       intro b F' hle' hb
       refine usePu (z14 F' _ (x :: r) (Sl.new (hb 0 ⟨rfl,rfl⟩)) (by simp; omega) (by simp)) rfl ⟨⟨rfl,rfl,rfl,.inr ⟨rfl,rfl,rfl,rfl⟩⟩,tv⟩ rfl ?_
       refine ⟨F',rfl,Fz.r _,rfl,fun _ _ _ _ _ _ h=>h,?_⟩;conv=>whnf
       refine rounds hΘ 2 ?_;conv=>whnf
       refine bre (by decide) ?_;conv=>whnf
       refine ⟨rfl,⟨by decide,by decide⟩,?_⟩;conv=>whnf
       refine ⟨_,rfl,?_⟩;conv=>whnf
       refine ⟨qf 1,[enc (3,mx (x :: r))],rfl,?_⟩;conv=>whnf
       refine ⟨rfl,rfl,?_⟩;conv=>whnf
       refine ⟨by show 1 * 16 ≤ 140737488355328; omega,fun c' hc=>?_⟩;conv=>whnf
       refine brd (by decide) ?_;conv=>whnf
       exact ⟨⟨(4,[] ++ [(3,mx (x :: r))],c'),by simp,hout'⟩,by show 7 - 4 < 7 - 3; omega,leR [(8,11)] hH hT rfl ⟨tv,zac _ _ _,zac _ _ _,zac _ _ _,zac _ _ _,zac _ _ _,zbt _ _ _,tv⟩ ⟨(zgp (μ:=sig [(8,11)]) (i:=8) (j:=11) rfl c' _ [] (3,mx (x :: r)) rfl),rfl,tv⟩ ⟨Fz.r F1,zak (zah _ _),zak (zah _ _),zak (zah _ _),zak (zah _ _),zak (zah _ _),zcy (zgo [enc (3,mx (x :: r))] rfl),tv⟩⟩
      ·replace hol:ro.length + 1 ≤ 100:=hol
       conv=>whnf
       refine ⟨⟨by simp,by simp⟩,_,rfl,?_⟩;conv=>whnf
       refine br (fun g=>absurd g (by simp; omega)) (fun _=>?_);conv=>whnf
       refine bre (by simp) ?_;conv=>whnf
       conv=>whnf
       refine borrow 4 (fun _=>.arr 3 1 ((x :: r).map encI) c3) rfl rfl rfl (fun _ _=>zbu _ (x :: r) _) (fun _ _=>za8 _ _ _) ?_
       intro b F' hle' hb
       refine usePu (z14 F' _ (x :: r) (Sl.new (hb 0 ⟨rfl,rfl⟩)) (by simp; omega) (by simp)) rfl ⟨⟨rfl,rfl,rfl,.inr ⟨rfl,rfl,rfl,rfl⟩⟩,tv⟩ rfl ?_
       refine ⟨F',rfl,Fz.r _,rfl,fun _ _ _ _ _ _ h=>h,?_⟩;conv=>whnf
       refine rounds hΘ 2 ?_;conv=>whnf
       refine bre (by decide) ?_;conv=>whnf
       refine ⟨rfl,⟨by decide,by decide⟩,?_⟩;conv=>whnf
       refine ⟨_,rfl,?_⟩;conv=>whnf
       refine ⟨qf 1,[enc (3,mx (x :: r))],rfl,?_⟩;conv=>whnf
       refine ⟨rfl,rfl,by simp,rfl,by show (ro.length + 1 + 1) * 16 ≤ 140737488355328; omega,fun c' hc=>?_⟩;conv=>whnf
       refine brd (by decide) ?_;conv=>whnf
       exact ⟨⟨(4,(xo :: ro) ++ [(3,mx (x :: r))],c'),by simp,hout'⟩,by show 7 - 4 < 7 - 3; omega,leR [(8,11)] hH hT rfl ⟨tv,zac _ _ _,zac _ _ _,zac _ _ _,zac _ _ _,zac _ _ _,zbt _ _ _,tv⟩ ⟨(zgp (μ:=sig [(8,11)]) (i:=8) (j:=11) rfl c' _ (xo :: ro) (3,mx (x :: r)) rfl),rfl,tv⟩ ⟨Fz.r F1,zak (zah _ _),zak (zah _ _),zak (zah _ _),zak (zah _ _),zak (zah _ _),zcy (zgo _ (by simp)),tv⟩⟩
    ·rcases s4 with _ | ⟨x,r⟩
     ·rcases out with _ | ⟨xo,ro⟩
      all_goals (conv=>whnf)
      all_goals refine ⟨⟨by simp,by simp⟩,_,rfl,?_⟩
      all_goals (conv=>whnf)
      all_goals refine bre (by decide) ?_
      all_goals (conv=>whnf)
      all_goals exact ⟨⟨(5,_,co),by simp,same 4 rfl hout⟩,by show 7 - 5 < 7 - 4; omega,leR [(8,8)] hH hT rfl ⟨tv,zac _ _ _,zac _ _ _,zac _ _ _,zac _ _ _,zac _ _ _,zbt _ _ _,tv⟩ ⟨(by first | exact rfl | exact ⟨rfl,rfl,rfl,.inr ⟨rfl,rfl,rfl,rfl⟩⟩),rfl,tv⟩ ⟨Fz.r F1,zak (zah _ _),zak (zah _ _),zak (zah _ _),zak (zah _ _),zak (zah _ _),zcy (zet _ _),tv⟩⟩
     ·have hle:=zen h4
      replace hle:r.length + 1 ≤ k:=hle
      have hout':=zdq [(4,mn (x :: r))] hout (congrArg some (zjt (by decide) (by decide)))
      have hol:out.length ≤ 100:=by rw [hout]; exact zeb _ _ _ _ _ _
      rcases out with _ | ⟨xo,ro⟩
      ·conv=>whnf
       refine ⟨⟨by simp,by simp⟩,_,rfl,?_⟩;conv=>whnf
       refine br (fun g=>absurd g (by simp; omega)) (fun _=>?_);conv=>whnf
       refine brd (by simp) ?_;conv=>whnf
       refine brd (by simp) ?_;conv=>whnf
       refine borrow 5 (fun _=>.arr 3 1 ((x :: r).map encI) c4) rfl rfl rfl (fun _ _=>zbu _ (x :: r) _) (fun _ _=>za8 _ _ _) ?_
       intro b F' hle' hb
       refine usePu (zln F' _ (x :: r) (Sl.new (hb 0 ⟨rfl,rfl⟩)) (by simp; omega) (by simp)) rfl ⟨⟨rfl,rfl,rfl,.inr ⟨rfl,rfl,rfl,rfl⟩⟩,tv⟩ rfl ?_
       refine ⟨F',rfl,Fz.r _,rfl,fun _ _ _ _ _ _ h=>h,?_⟩;conv=>whnf
       refine rounds hΘ 2 ?_;conv=>whnf
       refine bre (by decide) ?_;conv=>whnf
       refine ⟨rfl,⟨by decide,by decide⟩,?_⟩;conv=>whnf
       refine ⟨_,rfl,?_⟩;conv=>whnf
       refine ⟨qf 1,[enc (4,mn (x :: r))],rfl,?_⟩;conv=>whnf
       refine ⟨rfl,rfl,?_⟩;conv=>whnf
       refine ⟨by show 1 * 16 ≤ 140737488355328; omega,fun c' hc=>?_⟩;conv=>whnf
       refine brd (by decide) ?_;conv=>whnf
       exact ⟨⟨(5,[] ++ [(4,mn (x :: r))],c'),by simp,hout'⟩,by show 7 - 5 < 7 - 4; omega,leR [(8,11)] hH hT rfl ⟨tv,zac _ _ _,zac _ _ _,zac _ _ _,zac _ _ _,zac _ _ _,zbt _ _ _,tv⟩ ⟨(zgp (μ:=sig [(8,11)]) (i:=8) (j:=11) rfl c' _ [] (4,mn (x :: r)) rfl),rfl,tv⟩ ⟨Fz.r F1,zak (zah _ _),zak (zah _ _),zak (zah _ _),zak (zah _ _),zak (zah _ _),zcy (zgo [enc (4,mn (x :: r))] rfl),tv⟩⟩
      ·replace hol:ro.length + 1 ≤ 100:=hol
       conv=>whnf
       refine ⟨⟨by simp,by simp⟩,_,rfl,?_⟩;conv=>whnf
       refine br (fun g=>absurd g (by simp; omega)) (fun _=>?_);conv=>whnf
       refine brd (by simp) ?_;conv=>whnf
       refine brd (by simp) ?_;conv=>whnf
       refine borrow 5 (fun _=>.arr 3 1 ((x :: r).map encI) c4) rfl rfl rfl (fun _ _=>zbu _ (x :: r) _) (fun _ _=>za8 _ _ _) ?_
       intro b F' hle' hb
       refine usePu (zln F' _ (x :: r) (Sl.new (hb 0 ⟨rfl,rfl⟩)) (by simp; omega) (by simp)) rfl ⟨⟨rfl,rfl,rfl,.inr ⟨rfl,rfl,rfl,rfl⟩⟩,tv⟩ rfl ?_
       refine ⟨F',rfl,Fz.r _,rfl,fun _ _ _ _ _ _ h=>h,?_⟩;conv=>whnf
       refine rounds hΘ 2 ?_;conv=>whnf
       refine bre (by decide) ?_;conv=>whnf
       refine ⟨rfl,⟨by decide,by decide⟩,?_⟩;conv=>whnf
       refine ⟨_,rfl,?_⟩;conv=>whnf
       refine ⟨qf 1,[enc (4,mn (x :: r))],rfl,?_⟩;conv=>whnf
       refine ⟨rfl,rfl,by simp,rfl,by show (ro.length + 1 + 1) * 16 ≤ 140737488355328; omega,fun c' hc=>?_⟩;conv=>whnf
       refine brd (by decide) ?_;conv=>whnf
       exact ⟨⟨(5,(xo :: ro) ++ [(4,mn (x :: r))],c'),by simp,hout'⟩,by show 7 - 5 < 7 - 4; omega,leR [(8,11)] hH hT rfl ⟨tv,zac _ _ _,zac _ _ _,zac _ _ _,zac _ _ _,zac _ _ _,zbt _ _ _,tv⟩ ⟨(zgp (μ:=sig [(8,11)]) (i:=8) (j:=11) rfl c' _ (xo :: ro) (4,mn (x :: r)) rfl),rfl,tv⟩ ⟨Fz.r F1,zak (zah _ _),zak (zah _ _),zak (zah _ _),zak (zah _ _),zak (zah _ _),zcy (zgo _ (by simp)),tv⟩⟩
    ·rcases s5 with _ | ⟨x,r⟩
     ·rcases out with _ | ⟨xo,ro⟩
      all_goals (conv=>whnf)
      all_goals refine ⟨⟨by simp,by simp⟩,_,rfl,?_⟩
      all_goals (conv=>whnf)
      all_goals refine bre (by decide) ?_
      all_goals (conv=>whnf)
      all_goals exact ⟨⟨(6,_,co),by simp,same 5 rfl hout⟩,by show 7 - 6 < 7 - 5; omega,leR [(8,8)] hH hT rfl ⟨tv,zac _ _ _,zac _ _ _,zac _ _ _,zac _ _ _,zac _ _ _,zbt _ _ _,tv⟩ ⟨(by first | exact rfl | exact ⟨rfl,rfl,rfl,.inr ⟨rfl,rfl,rfl,rfl⟩⟩),rfl,tv⟩ ⟨Fz.r F1,zak (zah _ _),zak (zah _ _),zak (zah _ _),zak (zah _ _),zak (zah _ _),zcy (zet _ _),tv⟩⟩
     ·have hle:=zen h5
      replace hle:r.length + 1 ≤ k:=hle
      have hcap:r.length + 1 ≤ c5:=h7
      have hout':=zdq ((x :: r).take 5 |>.map (fun n=>(5,n))) hout (congrArg some (zto x r))
      have hol:out.length ≤ 100:=by rw [hout]; exact zeb _ _ _ _ _ _
      conv=>whnf
      refine ⟨⟨by simp,by simp⟩,_,rfl,?_⟩;conv=>whnf
      refine br (fun g=>absurd g (by simp; omega)) (fun _=>?_);conv=>whnf
      refine brd (by simp) ?_;conv=>whnf
      refine bre (by simp) ?_;conv=>whnf
      refine ⟨⟨by split<;>omega,by dsimp only; split<;>omega⟩,?_⟩;conv=>whnf
      refine zan hΘ (X:={ q:Nat × List Stp × Nat // q.1 ≤ min (r.length + 1) 5 ∧ q.2.1 = out ++ ((x :: r).take q.1).map (fun n=>(5,n)) }) (fun x=>[(6,.va (oA 9 x.1.2.2 x.1.2.1)),(64,.va (.int .i64 x.1.1))]) [10,65,66,67,68,69,70,71,72,73,74]
       (fun x=>[(0,.frz F1),(8,.gone),(9,oE x.1.2.2 x.1.2.1)]) 10 (fun x=>min (r.length + 1) 5 - x.1.1) ⟨(0,out,co),by simp⟩ ?_ ?_
      ·intro hH hT
       rcases out with _ | ⟨xo,ro⟩
       ·exact leI [(9,8)] hH hT rfl ⟨tv,tv,zbt _ _ _,tv⟩ ⟨rfl,rfl,tv⟩ ⟨Fz.r F1,zcy (zet _ _),tv⟩
       ·exact leI [(9,8)] hH hT rfl ⟨tv,tv,zbt _ _ _,tv⟩ ⟨⟨rfl,rfl,rfl,.inr ⟨rfl,rfl,rfl,rfl⟩⟩,rfl,tv⟩ ⟨Fz.r F1,zcy (zet _ _),tv⟩
      rintro ⟨⟨j,oi,ci⟩,hj,hoi⟩ hHi hTi
      replace hj:j ≤ min (r.length + 1) 5:=hj
      replace hoi:oi = out ++ ((x :: r).take j).map (fun n=>(5,n)):=hoi
      have hoil:oi.length ≤ 200:=by rw [hoi,qa,qb,qn]; omega
      conv=>whnf
      refine br (fun gb3=>?_) (fun gb3=>?_)
      ·have gj:j < min (r.length + 1) 5:=by
        simp only [decide_eq_true_eq] at gb3
        split at gb3<;>omega
       clear gb3
       have gj0:j < (x :: r).length:=by simp; omega
       have hoi':oi ++ [(5,(x :: r)[j])] = out ++ ((x :: r).take (j + 1)).map (fun n=>(5,n)):=by
        rw [qi gj0,q5,← qk,hoi]; rfl
       have hread:∀ e:Nat,e = 0 → ((x :: r).map encI)[e + (j:Int).toNat]? = some (encI (x :: r)[j]):=by
        intro e he; subst he
        rw [ji,ql,qs,qc gj0]; rfl
       rcases oi with _ | ⟨yo,ro⟩
       ·conv=>whnf
        refine ⟨rfl,⟨by simp,?_⟩,?_⟩
        ·dsimp only; split<;>omega
        conv=>whnf
        refine ⟨rfl,?_⟩;conv=>whnf
        refine ⟨_,hread _ (by dsimp only; split<;>rfl),?_⟩;conv=>whnf
        refine ⟨qf 1,[enc (5,(x :: r)[j])],rfl,?_⟩;conv=>whnf
        refine ⟨rfl,rfl,?_⟩;conv=>whnf
        refine ⟨by show 1 * 16 ≤ 140737488355328; omega,fun c' hc=>?_⟩;conv=>whnf
        exact ⟨⟨(j + 1,[] ++ [(5,(x :: r)[j])],c'),gj,hoi'⟩,by show min (r.length + 1) 5 - (j + 1) < min (r.length + 1) 5 - j; omega,leR [(9,11)] hHi hTi rfl ⟨tv,tv,zbt _ _ _,tv⟩ ⟨(zgp (μ:=sig [(9,11)]) (i:=9) (j:=11) rfl c' _ ([]) (5,(x :: r)[j]) rfl),cnt (by omega),tv⟩ ⟨Fz.r F1,zcy (zgo [enc (5,(x :: r)[j])] rfl),tv⟩⟩
       ·replace hoil:ro.length + 1 ≤ 200:=hoil
        conv=>whnf
        refine ⟨rfl,⟨by simp,?_⟩,?_⟩
        ·dsimp only; split<;>omega
        conv=>whnf
        refine ⟨rfl,?_⟩;conv=>whnf
        refine ⟨_,hread _ (by dsimp only; split<;>rfl),?_⟩;conv=>whnf
        refine ⟨qf 1,[enc (5,(x :: r)[j])],rfl,?_⟩;conv=>whnf
        refine ⟨rfl,rfl,by simp,rfl,by show (ro.length + 1 + 1) * 16 ≤ 140737488355328; omega,fun c' hc=>?_⟩;conv=>whnf
        exact ⟨⟨(j + 1,yo :: ro ++ [(5,(x :: r)[j])],c'),gj,hoi'⟩,by show min (r.length + 1) 5 - (j + 1) < min (r.length + 1) 5 - j; omega,leR [(9,11)] hHi hTi rfl ⟨tv,tv,zbt _ _ _,tv⟩ ⟨(zgp (μ:=sig [(9,11)]) (i:=9) (j:=11) rfl c' _ (yo :: ro) (5,(x :: r)[j]) rfl),cnt (by omega),tv⟩ ⟨Fz.r F1,zcy (zgo _ (by simp)),tv⟩⟩
      ·have gj:j = min (r.length + 1) 5:=by
        simp only [decide_eq_false_iff_not] at gb3
        split at gb3<;>omega
       have hoo:oi = ((pieces s1 s2 s3 s4 (x :: r)).take 6).flatten:=by
        rw [hoi,← hout',gj]
        congr 2
        rw [Nat.min_comm,← qe (a:=x),← qc1,yr]
       rcases oi with _ | ⟨yo,ro⟩
       ·conv=>whnf
        exact ⟨⟨(6,[],ci),by simp,hoo⟩,by show 7 - 6 < 7 - 5; omega,leRn [_,_,_] [_,_] [(8,9)] hH hT rfl ⟨tv,zac _ _ _,zac _ _ _,zac _ _ _,zac _ _ _,zac _ _ _,zbt _ _ _,tv⟩ ⟨rfl,rfl,tv⟩ ⟨Fz.r F1,zak (zah _ _),zak (zah _ _),zak (zah _ _),zak (zah _ _),zak (zah _ _),zcy (zet _ _),tv⟩⟩
       ·conv=>whnf
        exact ⟨⟨(6,yo :: ro,ci),by simp,hoo⟩,by show 7 - 6 < 7 - 5; omega,leRn [_,_,_] [_,_] [(8,9)] hH hT rfl ⟨tv,zac _ _ _,zac _ _ _,zac _ _ _,zac _ _ _,zac _ _ _,zbt _ _ _,tv⟩ ⟨⟨rfl,rfl,rfl,.inr ⟨rfl,rfl,rfl,rfl⟩⟩,rfl,tv⟩ ⟨Fz.r F1,zak (zah _ _),zak (zah _ _),zak (zah _ _),zak (zah _ _),zak (zah _ _),zcy (zet _ _),tv⟩⟩
    ·rcases out with _ | ⟨xo,ro⟩
     all_goals (conv=>whnf)
     all_goals refine ⟨⟨by simp,by simp⟩,_,rfl,?_⟩
     all_goals (conv=>whnf)
     all_goals refine bre (by decide) ?_
     all_goals (conv=>whnf)
     all_goals exact ⟨⟨(7,_,co),by simp,same 6 rfl hout⟩,by show 7 - 7 < 7 - 6; omega,leR [(8,8)] hH hT rfl ⟨tv,zac _ _ _,zac _ _ _,zac _ _ _,zac _ _ _,zac _ _ _,zbt _ _ _,tv⟩ ⟨(by first | exact rfl | exact ⟨rfl,rfl,rfl,.inr ⟨rfl,rfl,rfl,rfl⟩⟩),rfl,tv⟩ ⟨Fz.r F1,zak (zah _ _),zak (zah _ _),zak (zah _ _),zak (zah _ _),zak (zah _ _),zcy (zet _ _),tv⟩⟩
   ·have gk2 : k2 = 7 := by have : ¬ (k2 : Int) < 7 := by simpa using gb2
                            omega
    subst gk2
    have hfin:out = normS l:=by
     rw [normS,← e6,if_pos rfl,← e1,← e2,← e3,← e4,← e5]; exact hout
    rcases out with _ | ⟨xo,ro⟩
    ·conv=>whnf
     exact endFo (.ret (.va (.slice true 0 0 0 2 0 0))) F1 rfl l1 (Fz.r F1) ⟨_,rfl,by rw [← hfin]; exact Sl.nil⟩ ⟨rfl,rfl,rfl⟩ rfl
    ·conv=>whnf
     refine zbl 8 (fun _=>.arr 56 2 ((xo :: ro).map enc) co) rfl rfl rfl (fun _ _=>?_) (fun _ _=>zdw _ _ _) ?_
     ·exact zgg _ (xo :: ro) co
     intro b F' hle hb
     refine endFo (.ret (.va (.slice false 0 (b 0) 0 2 (ro.length + 1) co))) F' rfl (Fz.t l1 hle) (Fz.r F') ⟨_,rfl,?_⟩ ⟨rfl,rfl,rfl,.inr ⟨rfl,rfl,rfl,rfl⟩⟩ rfl
     rw [← hfin]
     exact Sl.new (l:=xo :: ro) (hb 0 ⟨rfl,rfl⟩)
  ·conv=>whnf
   refine ⟨⟨by decide,by decide⟩,?_⟩;conv=>whnf
   refine bre (by simp) ?_;conv=>whnf
   refine zbl 8 (fun _=>.arr 56 2 [enc (6,0)] 1) rfl rfl rfl (fun _ _=>rfl) (fun _ _=>SB.bB_ok rfl) ?_
   intro b F' hle hb
   refine endFo (.ret (.va (.slice false 0 (b 0) 0 2 1 1))) F' rfl (Fz.t l1 hle) (Fz.r F') ⟨_,rfl,?_⟩ ⟨rfl,rfl,rfl,.inr ⟨rfl,rfl,rfl,rfl⟩⟩ rfl
   rw [normS,← e6,if_neg (by simp)]
   exact Sl.new (l:=[(6,0)]) (hb 0 rfl)
end Go.Proofs.YtfnkamphhpldcaaGreatDoor
