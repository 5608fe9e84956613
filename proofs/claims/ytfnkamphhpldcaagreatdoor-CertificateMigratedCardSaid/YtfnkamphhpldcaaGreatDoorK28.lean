import Derived.Test.YtfnkamphhpldcaaGreatDoorK27
import Derived.Test.YtfnkamphhpldcaaGreatDoorK20
import Derived.Test.YtfnkamphhpldcaaGreatDoorK21
import Derived.Lib.UnsafeStr
import Derived.Test.YtfnkamphhpldcaaGreatDoorK09
set_option maxHeartbeats 64000000
namespace Go.Proofs.YtfnkamphhpldcaaGreatDoor
open Go Go.RowKit Sx
theorem ztf {h:Hp} {nx:Nat} {K:Out → Hp → Nat → Prop} {i:Nat} {bf:SA} (j:lget h i = some (.one (.cells 174 [.nilptr,bf])))
  (B:K (.ret (.tup [])) (lput h i (.one (.cells 174 [.ptr ⟨i,0,0,0,0⟩,bf]))) nx):zba Tryz.prog 256 [.va (.ptr ⟨i,0,0,0,0⟩)] h nx K:=by
 unfold zba;intro C ρ w vs S p L;refine ⟨Sx.enters_of Tryz.func256 rfl (by decide),?_⟩
 match vs,p with
 |[v],p=>
  have E:v = .pointer (some ⟨ρ i 0,0,none⟩):=by
   have h1:=p.1;simpa [SV.rel,SA.den,Pl.addr] using h1
  subst E;have has:(Ent.one (.cells 174 [.nilptr,bf])).has 0:=rfl;obtain ⟨o,g,f⟩:=S.blk i _ j 0 has;have n:=S.wf i _ j 0 has;have k:=S.lt i _ j;have d:RowAt w (ρ i 0) 174 ([SA.nilptr,bf].map (SA.den ρ)):=⟨o,g,f⟩
  have D:w.cell? ⟨ρ i 0,0,none⟩ = some (.pointer none):=by rw [d.cell]; rfl
  have m:=d.free 0 (by simp);obtain ⟨x,s,rfl⟩:=f;have q:w.shape? (ρ i 0) = some (174,2):=by simp [World.shape?,g]
  refine (z5v (ρ i 0) w D q m).mono ?_;rintro e J ⟨rfl,rfl⟩;rw [setCell_eq_setRow w (ρ i 0) 0 _ 174 x _ g];refine ⟨.ret (.tup []),_,nx,ρ,B,⟨_,rfl,rfl⟩,?_,fun _ _=>rfl,qm _,?_⟩
  ·exact S.upd 0 j rfl rfl has (fun _=>Iff.rfl) _ (fun I l G=>absurd (show I = 0 from G) l) ⟨x,s,rfl⟩ (fun a y=>by
    simp only [qj,qs,or_false] at y;rcases y with rfl | rfl
    ·exact k
    ·exact n a (by simp)) rfl rfl rfl (by simp) (setRow_heap w _ _ _ 174 _ g) (fun b u=>zem w _ b _ u)
  ·intro c A;cases A
theorem zna {h:Hp} {nx:Nat} {K:Out → Hp → Nat → Prop} {i:Nat} {bf:SA} (m:lget h i = some (.one (.cells 174 [.ptr ⟨i,0,0,0,0⟩,bf])))
  (g:K (.ret (.tup [])) h nx):zba Tryz.prog 256 [.va (.ptr ⟨i,0,0,0,0⟩)] h nx K:=by
 unfold zba;intro C ρ w vs S d p;refine ⟨Sx.enters_of Tryz.func256 rfl (by decide),?_⟩
 match vs,d with
 |[v],d=>
  have k:v = .pointer (some ⟨ρ i 0,0,none⟩):=by
   have h1:=d.1;simpa [SV.rel,SA.den,Pl.addr] using h1
  subst k;have has:(Ent.one (.cells 174 [.ptr ⟨i,0,0,0,0⟩,bf])).has 0:=rfl;obtain ⟨o,l,b⟩:=S.blk i _ m 0 has;have a:RowAt w (ρ i 0) 174 ([SA.ptr ⟨i,0,0,0,0⟩,bf].map (SA.den ρ)):=⟨o,l,b⟩
  have j:w.cell? ⟨ρ i 0,0,none⟩ = some (.pointer (some ⟨ρ i 0,0,none⟩)):=by rw [a.cell]; simp [SA.den,Pl.addr]
  refine (z9u (ρ i 0) w j).mono ?_;rintro e n ⟨rfl,rfl⟩;exact ⟨.ret (.tup []),h,nx,ρ,g,⟨_,rfl,rfl⟩,S,fun _ _=>rfl,qm _,fun c f=>by cases f⟩
end Go.Proofs.YtfnkamphhpldcaaGreatDoor
namespace Go.Proofs.YtfnkamphhpldcaaGreatDoor
open Go Sx
set_option maxRecDepth 100000
def wrA (u:Bool) (i:Nat):SA:=match u with
 |false=>.nilptr
 |true=>.ptr ⟨i,0,0,0,0⟩
def wrC (u:Bool) (i j c:Nat) (l:List UInt8):Ent:=.one (.cells 174 [wrA u i,gA 1 j c l])
theorem zas {n i j:Nat} (u:Bool) (e:i < n) (d:j < n) (c:Nat) (l:List UInt8):(wrC u i j c l).below n:=by
 cases u<;>intro a b<;>simp only [qj,qs,or_false] at b<;>rcases b with rfl | rfl
 ·trivial
 ·cases l with
  |nil=>trivial
  |cons x r=>exact .inr d
 ·exact e
 ·cases l with
  |nil=>trivial
  |cons x r=>exact .inr d
theorem zej {μ:Mu} {u:Bool} {i i' j j':Nat} (b:μ i 0 = (i',0)) (a:μ j 0 = (j',0)) (c:Nat) (l:List UInt8):(wrC u i j c l).ren μ = wrC u i' j' c l:=by
 cases u
 ·show Ent.one (.cells _ [.nilptr,(gA 1 j c l).ren μ]) = _;rw [ztb a]; rfl
 ·show Ent.one (.cells _ [.ptr ⟨(μ i 0).1,(μ i 0).2 + 0,0,0,0⟩,(gA 1 j c l).ren μ]) = _;rw [ztb a,b]; rfl
theorem zb2 {μ:Mu} {u:Bool} {i i' j j' c:Nat} {l:List UInt8} (a:μ i 0 = (i',0)) (b:μ j 0 = (j',0)):subE (some (wrC u i' j' c l)) ((wrC u i j c l).ren μ):=by
 rw [zej a b]; cases u<;>exact rfl
theorem zr2 {μ:Mu} {i i' j j' c n:Nat} {x:UInt8} {l:List UInt8} (b:μ i 0 = (i',0)) (a:μ j 0 = (j',0)) (d:n = l.length + 1):subE (some (.one (.cells 174 [.ptr ⟨i',0,0,0,0⟩,.slice false j' 0 0 1 n c]))) ((wrC true i j c (x :: l)).ren μ):=by
 subst d; rw [zej b a]; exact rfl
abbrev wrN (c:Nat) (l:List UInt8):List (Nat × Ent):=[(1,wrC true 1 3 c l),(2,.gone),(3,gE 5 1 encB c l)]
theorem zgq (c:Nat) (l:List UInt8):bH 4 (wrN c l):=⟨zas _ (by omega) (by omega) _ _,tv,zai zab _ _ _ _ _,tv⟩
abbrev wrH (u:Bool) (c:Nat) (l:List UInt8):List (Nat × Ent):=[(1,wrC u 1 2 c l),(2,gE 5 1 encB c l)]
theorem zx4 (F:Fz) (u:Bool) (s out:List UInt8) (c:Nat) (e:u = false → out = []) (d:s.length ≤ 1000000000000) (f:out.length ≤ 1000000000000) :
  Ct Tryz.prog 224 [.va (.ptr ⟨1,0,0,0,0⟩),.va (.str s)] F (wrH u c out) 3
   (fun o g h n0=>F = g ∧ n0 = 4 ∧ o = .ret (.tup [.va (.int .i64 s.length),.va .nilif]) ∧ ∃ c',h = wrN c' (out ++ s)):=by
 rcases u with _ | _
 ·obtain rfl:=e rfl;rcases s with _ | ⟨b,t⟩
  ·refine ct_of hΘ Tryz.func224 rfl (by decide) _ _ rfl rfl rfl ?_;refine ztf rfl ?_;refine ⟨rfl,rfl,?_⟩;exact clean [(3,2)] (.ret (.tup [.va (.int .i64 0),.va .nilif])) F (wrN c []) 4 ⟨Fz.r F,rfl,rfl,rfl,c,rfl⟩ (zah _) rfl rfl (Out.bB_ok (o:=.ret (.tup [.va (.int .i64 0),.va .nilif])) rfl) (zgq _ _) ⟨Fz.r F,rfl,zax zab (zay _ _ _ _),tv⟩
  ·refine ct_of hΘ Tryz.func224 rfl (by decide) _ _ rfl rfl rfl ?_;refine ztf rfl ?_;refine ⟨rfl,rfl,by show ((t.map fun b:UInt8=>[SA.int .u8 b.toNat]).length + 1) * 1 ≤ 140737488355328; rw [qa]; simp at d; omega,fun c' a=>?_⟩;clear a;exact clean [(3,3)] (.ret (.tup [.va (.int .i64 (b :: t).length),.va .nilif])) F (wrN c' (b :: t)) 4 ⟨Fz.r F,rfl,rfl,rfl,c',rfl⟩ (zah _) rfl rfl (Out.bB_ok (o:=.ret (.tup [.va (.int .i64 (b :: t).length),.va .nilif])) rfl) (zgq _ _) ⟨Fz.r F,zr2 (i:=1) (i':=1) (j:=3) (j':=3) (by rfl) (by rfl) (by simp),zax zab (zcs _ (by rfl)),tv⟩
 ·rcases out with _ | ⟨x,r⟩
  ·rcases s with _ | ⟨b,t⟩
   ·refine ct_of hΘ Tryz.func224 rfl (by decide) _ _ rfl rfl rfl ?_;refine zna rfl ?_;refine ⟨rfl,rfl,?_⟩;exact clean [(3,2)] (.ret (.tup [.va (.int .i64 0),.va .nilif])) F (wrN c []) 4 ⟨Fz.r F,rfl,rfl,rfl,c,rfl⟩ (zah _) rfl rfl (Out.bB_ok (o:=.ret (.tup [.va (.int .i64 0),.va .nilif])) rfl) (zgq _ _) ⟨Fz.r F,rfl,zax zab (zay _ _ _ _),tv⟩
   ·refine ct_of hΘ Tryz.func224 rfl (by decide) _ _ rfl rfl rfl ?_;refine zna rfl ?_;refine ⟨rfl,rfl,by show ((t.map fun b:UInt8=>[SA.int .u8 b.toNat]).length + 1) * 1 ≤ 140737488355328; rw [qa]; simp at d; omega,fun c' a=>?_⟩;clear a;exact clean [(3,3)] (.ret (.tup [.va (.int .i64 (b :: t).length),.va .nilif])) F (wrN c' (b :: t)) 4 ⟨Fz.r F,rfl,rfl,rfl,c',rfl⟩ (zah _) rfl rfl (Out.bB_ok (o:=.ret (.tup [.va (.int .i64 (b :: t).length),.va .nilif])) rfl) (zgq _ _) ⟨Fz.r F,zr2 (i:=1) (i':=1) (j:=3) (j':=3) (by rfl) (by rfl) (by simp),zax zab (zcs _ (by rfl)),tv⟩
  ·refine ct_of hΘ Tryz.func224 rfl (by decide) _ _ rfl rfl rfl ?_;refine zna rfl ?_;refine ⟨rfl,rfl,by simp,rfl,by rw [qa]; show (r.length + 1 + s.length) * 1 ≤ 140737488355328; simp at f; omega,fun c' a=>?_⟩;clear a;exact clean [(3,3)] (.ret (.tup [.va (.int .i64 s.length),.va .nilif])) F (wrN c' (x :: (r ++ s))) 4 ⟨Fz.r F,rfl,rfl,rfl,c',rfl⟩ (zah _) rfl rfl (Out.bB_ok (o:=.ret (.tup [.va (.int .i64 s.length),.va .nilif])) rfl) (zgq _ _) ⟨Fz.r F,zr2 (i:=1) (i':=1) (j:=3) (j':=3) (by rfl) (by rfl) (by rw [qa,qd]; omega),zax zab (zcs _ (by show ((x :: r).map encB) ++ (s.map encB) = (x :: (r ++ s)).map encB; simp)),tv⟩
theorem zb5 {τ μ:Mu} {u:Bool} {a i b j k i' j' c:Nat} {l:List UInt8} (h1:τ a 0 = (i',0)) (e:μ i 0 = (i',0)) (d:τ b 0 = (j',0)) (f:μ j 0 = (j',0)) (g:k = i):subE (some ((wrC u a b c l).ren τ)) ((wrC u k j c l).ren μ):=by
 subst g;rw [zej h1 d,zej e f]; cases u<;>exact rfl
abbrev wrM (u:Bool) (c:Nat) (l:List UInt8):List (Nat × Ent):=[(1,wrC u 1 3 c l),(2,.gone),(3,gE 5 1 encB c l)]
theorem zcb (u:Bool) (c:Nat) (l:List UInt8):bH 4 (wrM u c l):=⟨zas _ (by omega) (by omega) _ _,tv,zai zab _ _ _ _ _,tv⟩
abbrev wrK (F:Fz) (out:List UInt8):Out → Fz → List (Nat × Ent) → Nat → Prop:=fun o b c n0=>F = b ∧ n0 = 4 ∧ o = .ret (.tup []) ∧ ∃ a c',(a = false → out = []) ∧ c = wrM a c' out
theorem ztg (j:PFun) (F:Fz) (u:Bool) (s out:List UInt8) (c:Nat) (f:u = false → out = []) (k:s.length ≤ 1000000000) (i:out.length ≤ 1000000000000) :
  Ct Tryz.prog 160 [.va (.ptr ⟨1,0,0,0,0⟩),.va (.str s)] F (wrH u c out) 3 (wrK F (out ++ (putSR s).1)):=by
 have a:=zen j F s (by omega);have e:=zdf s;have b:∃ t,(putSR s).1 = t:=⟨_,rfl⟩
 obtain ⟨t,b⟩:=b;rw [b] at a e ⊢;refine ct_of hΘ Tryz.func160 rfl (by decide) _ _ rfl rfl rfl ?_;refine usePu (a) rfl (zaa _) rfl ?_;refine use (zx4 F u t out c f (by omega) i) [(1,1),(2,2)] rfl ⟨rfl,rfl,tv⟩ rfl ⟨zas _ (by omega) (by omega) _ _,zai zab _ _ _ _ _,tv⟩ (by simp [SV.below,SA.below]) ⟨zb2 (by rfl) (by rfl),zax zab (zay _ _ _ _),tv⟩ ?_;rintro _ l _ _ g ⟨rfl,rfl,rfl,d,rfl⟩;exact clean [(3,3)] (.ret (.tup [])) F (wrM true d (out ++ t)) 4 ⟨Fz.r F,rfl,rfl,rfl,true,d,fun h=>absurd h (by simp),rfl⟩ trivial rfl rfl (Out.bB_ok (o:=.ret (.tup [])) rfl) (zcb _ _ _) ⟨Fz.r F,zb5 (i':=1) (j':=3) (by rfl) (by rfl) (by rfl) (by rfl) rfl,zbl zab,tv⟩
theorem zdw (R:PFun) (F:Fz) (G:SA) (l:List Int) (u:Bool) (out:List UInt8) (c:Nat) (L:u = false → out = []) (V:zek F G l) (Y:l.length < 1000000) (Z:out.length ≤ 900000000000) :
  Ct Tryz.prog 159 [.va (.ptr ⟨1,0,0,0,0⟩),.va G] F (wrH u c out) 3 (wrK F (out ++ zae l)):=by
 obtain ⟨T,I,S,U,Q,W,rfl,i,y,K,D⟩:=V;refine ct_of hΘ Tryz.func159 rfl (by decide) _ _ rfl rfl rfl ?_
 refine zam hΘ (X:={ x:Nat × List UInt8 × Nat × Bool // x.1 ≤ l.length ∧ x.2.1 = out ++ ((l.take x.1).map fun n=>(putIR n).1).flatten ∧ (x.2.2.2 = false → x.2.1 = []) }) (fun x=>[(10,.va (.int .i64 x.1.1))]) [5,6,7,11,12,13,14,15,16,17,18,19,20,21,22,23,24]
  (fun x=>[(0,.frz F),(1,wrC x.1.2.2.2 1 3 x.1.2.2.1 x.1.2.1),(2,.gone),(3,gE 5 1 encB x.1.2.2.1 x.1.2.1)]) 4 (fun x=>l.length - x.1.1) ⟨(0,out,c,u),by simpa using L⟩
  (fun s A=>leI [(3,2)] s A rfl ⟨tv,zas _ (by omega) (by omega) _ _,tv,zai zab _ _ _ _ _,tv⟩ ⟨rfl,tv⟩ ⟨Fz.r F,zb2 (by rfl) (by rfl),zax zab (zay _ _ _ _),tv⟩) ?_
 rintro ⟨⟨k,ob,B,p⟩,E,a,b⟩ s A;replace E:k ≤ l.length:=E;replace a:ob = out ++ ((l.take k).map fun n=>(putIR n).1).flatten:=a;replace b:p = false → ob = []:=b
 have g:ob.length ≤ 1000000000000:=by
  have J:=zga zei (l.take k);rw [qq] at J;rw [a,qd]; omega
 refine br (fun q=>?_) (fun q=>?_)
 ·have e:k < l.length:=by simpa using q
  clear q;have j:=R F l[k];have m:∃ t,(putIR l[k]).1 = t:=⟨_,rfl⟩
  obtain ⟨t,m⟩:=m;have w:=zei l[k];have f:ob ++ t = out ++ ((l.take (k + 1)).map fun n=>(putIR n).1).flatten:=by rw [zb1 e,m,a,ql]
  rw [m] at j w;refine ⟨Sl.lt i e,⟨by simp,by simpa using e⟩,_,y (Sl.lt i e),_,Sl.at D e,?_⟩;refine usePu (j) rfl (zaa _) rfl ?_;refine use (zx4 F p t ob B b (by omega) g) [(1,1),(2,3)] rfl ⟨rfl,rfl,tv⟩ rfl ⟨zas _ (by omega) (by omega) _ _,zai zab _ _ _ _ _,tv⟩ (by simp [SV.below,SA.below]) ⟨zb2 (by rfl) (by rfl),zax zab (zay _ _ _ _),tv⟩ ?_;rintro _ F' _ _ O ⟨rfl,rfl,rfl,M,rfl⟩;exact ⟨⟨(k + 1,ob ++ t,M,true),by show k + 1 ≤ l.length; omega,f,fun h=>absurd h (by simp)⟩,by show l.length - (k + 1) < l.length - k; omega,leR [(3,4)] s A rfl ⟨tv,zas _ (by omega) (by omega) _ _,tv,zai zab _ _ _ _ _,tv⟩ ⟨cnt (by omega),tv⟩ ⟨Fz.r F,zb5 (i':=1) (j':=4) (by rfl) (by rfl) (by rfl) (by rfl) rfl,zbl zab,tv⟩⟩
 ·have e:¬ k < l.length:=by simpa using q
  have d:ob = out ++ zae l:=by rw [a,zae,qn (by omega)]
  exact clean [(3,3)] (.ret (.tup [])) F (wrM p B ob) 4 ⟨Fz.r F,rfl,rfl,rfl,p,B,by rw [← d]; exact b,by rw [d]⟩ trivial rfl rfl (Out.bB_ok (o:=.ret (.tup [])) rfl) (zcb _ _ _) ⟨Fz.r F,zb2 (by rfl) (by rfl),zax zab (zay _ _ _ _),tv⟩
abbrev wrL (out:List UInt8):Out → Fz → List (Nat × Ent) → Nat → Prop:=fun o c b n0=>n0 = 4 ∧ o = .ret (.tup []) ∧ ∃ a c',(a = false → out = []) ∧ b = wrM a c' out
def ptext (L:List DLn):List UInt8:=zae [(L.length:Int)] ++ (L.map fun x=>(putSR x.1).1).flatten
def pmot (L:List DLn):List UInt8:=zae [(L.length:Int)] ++ (L.map fun x=>zae [x.2]).flatten
theorem zki:∀ (L:List DLn),(∀ x ∈ L,x.1.length ≤ 1000000) → ((L.map fun x=>(putSR x.1).1).flatten).length ≤ L.length * 2000000
 |[],_=>by simp
 |x :: r,h=>by
  have h1:=zdf x.1;have c:=h x (by simp);have b:=zki r fun y a=>h y (by simp [a])
  rw [qv,jx,qd,qh];omega
theorem zn7:∀ (L:List DLn),((L.map fun x=>zae [x.2]).flatten).length ≤ L.length * 1000
 |[]=>by simp
 |x :: r=>by
  have h1:=za0 [x.2];have a:=zn7 r;rw [yk] at h1;rw [qv,jx,qd,qh];omega
theorem ydv (hP:PFun) (F:Fz) (D:Bool) (K y I:Nat) (bn:Bool) (bb be bl bc:Nat) (L:List DLn) (w:Int) (s:List UInt8) (ha:Sl F 148 2 encN (.slice D 0 K y 2 L.length I) L) (hl:L.length ≤ 1000) (Z:∀ x ∈ L,x.1.length ≤ 1000000) :
  Ct Tryz.prog 158 [.agg (docS (.slice D 0 K y 2 L.length I) (.slice bn 0 bb be 6 bl bc) w s),.va (.ptr ⟨1,0,0,0,0⟩)] F (wrH false 0 []) 3 (wrL (ptext L)):=by
 obtain ⟨aj,ad,ai,ak,R,ah,T,h,Q,af,V⟩:=ha;cases T
 refine ct_of hΘ Tryz.func158 rfl (by decide) _ _ rfl rfl rfl ?_;refine za7 4 (fun _=>.arr 3 1 ([((L.length:Nat):Int)].map encI) 1) rfl rfl rfl (fun _ _=>rfl) (fun _ _=>SB.bB_ok rfl) ?_;intro b1 F1 l1 W;refine use (zdw hP F1 _ [((L.length:Nat):Int)] false [] 0 (fun _=>rfl) (Sl.new (l:=[((L.length:Nat):Int)]) (cap:=1) (W 0 rfl)) (by simp) (by simp)) [(1,1),(2,2)] rfl ⟨rfl,⟨rfl,rfl,rfl,.inr ⟨rfl,rfl,rfl,rfl⟩⟩,tv⟩ rfl ⟨zas _ (by omega) (by omega) _ _,zai zab _ _ _ _ _,tv⟩ (by simp [SV.below,SA.below]) ⟨zb2 (by rfl) (by rfl),zax zab (zay _ _ _ _),tv⟩ ?_;rintro n F' h0 n0 M ⟨rfl,rfl,rfl,u1,c1,O,rfl⟩
 refine zam hΘ (X:={ x:Nat × List UInt8 × Nat × Bool // x.1 ≤ L.length ∧ x.2.1 = zae [((L.length:Nat):Int)] ++ ((L.take x.1).map fun x=>(putSR x.1).1).flatten ∧ (x.2.2.2 = false → x.2.1 = []) }) (fun x=>[(17,.va (.int .i64 x.1.1))]) [5,18,19,20,21,22,23,24,25]
  (fun x=>[(0,.frz F1),(1,wrC x.1.2.2.2 1 6 x.1.2.2.1 x.1.2.1),(3,docE4 (.slice D 0 K y 2 L.length I) (.slice bn 0 bb be 6 bl bc) w s),(5,.gone),(6,gE 5 1 encB x.1.2.2.1 x.1.2.1)]) 7 (fun x=>L.length - x.1.1) ⟨(0,[] ++ zae [((L.length:Nat):Int)],c1,u1),by simpa using O⟩
  (fun A S=>leI [(6,5)] A S rfl ⟨tv,zas _ (by omega) (by omega) _ _,zbu (.inr (by omega)) (.inr (by omega)),tv,zai zab _ _ _ _ _,tv⟩ ⟨rfl,tv⟩ ⟨Fz.r F1,zb5 (i':=1) (j':=5) (by rfl) (by rfl) (by rfl) (by rfl) rfl,rfl,zbl zab,tv⟩) ?_
 rintro ⟨⟨k,ob,U,u⟩,hk,a,b⟩ A S;replace hk:k ≤ L.length:=hk;replace a:ob = zae [((L.length:Nat):Int)] ++ ((L.take k).map fun x=>(putSR x.1).1).flatten:=a;replace b:u = false → ob = []:=b
 have aa:ob.length ≤ 100000000000:=by
  have h9:=zki (L.take k) (fun x G=>Z x (yf G));have h8:=za0 [((L.length:Nat):Int)];rw [qq] at h9;rw [yk] at h8;rw [a,qd]; omega
 by_cases g:k < L.length
 ·have d:(k:Int) < (L.length:Nat):=by omega
  have i:0 ≤ (k:Int) ∧ (k:Int) < (L.length:Nat):=by omega
  have J:∃ t m,L[k] = (t,m):=⟨_,_,rfl⟩
  obtain ⟨t,m,e⟩:=J;have E:R[y + (k:Int).toNat]? = some (encN (t,m)):=by rw [← e]; exact Sl.at V g
  have ag:t.length ≤ 1000000:=by have:=Z _ (jp g); rw [e] at this; exact this
  have f:ob ++ (putSR t).1 = zae [((L.length:Nat):Int)] ++ ((L.take (k + 1)).map fun x=>(putSR x.1).1).flatten:=by rw [zb1 g,e,a,ql]
  have B:k + 1 ≤ L.length:=g;have p:L.length - (k + 1) < L.length - k:=by omega
  have j:k < 4611686018427387904:=by omega
  have q:=l1 _ _ (Q (Sl.lt h g));refine bri d ?_;refine ⟨Sl.lt h g,i,_,q,_,E,?_⟩;refine use (ztg hP F1 u t ob U b (by omega) (by omega)) [(1,1),(2,6)] rfl ⟨rfl,rfl,tv⟩ rfl ⟨zas _ (by omega) (by omega) _ _,zai zab _ _ _ _ _,tv⟩ (by simp [SV.below,SA.below]) ⟨zb2 (by rfl) (by rfl),zax zab (zay _ _ _ _),tv⟩ ?_;rintro n F' h0 n0 M ⟨rfl,rfl,rfl,u2,c2,Y,rfl⟩;exact ⟨⟨(k + 1,ob ++ (putSR t).1,c2,u2),B,f,Y⟩,p,leR [(6,8)] A S rfl ⟨tv,zas _ (by omega) (by omega) _ _,zbu (.inr (by omega)) (.inr (by omega)),tv,zai zab _ _ _ _ _,tv⟩ ⟨cnt j,tv⟩ ⟨Fz.r F1,zb5 (i':=1) (j':=8) (by rfl) (by rfl) (by rfl) (by rfl) rfl,rfl,zbl zab,tv⟩⟩
 ·have d:¬ (k:Int) < (L.length:Nat):=by omega
  have c:ob = ptext L:=by rw [a,ptext,qn (by omega)]
  refine brj d ?_;exact clean [(3,6)] (.ret (.tup [])) F1 (wrM u U ob) 4 ⟨l1,rfl,rfl,u,U,by rw [← c]; exact b,by rw [c]⟩ trivial rfl rfl (Out.bB_ok (o:=.ret (.tup [])) rfl) (zcb _ _ _) ⟨Fz.r F1,zb2 (by rfl) (by rfl),zax zab (zay _ _ _ _),tv⟩
theorem ycw (hP:PFun) (F:Fz) (E:Bool) (Q A M:Nat) (bn:Bool) (bb be bl bc:Nat) (L:List DLn) (w:Int) (s:List UInt8) (ha:Sl F 148 2 encN (.slice E 0 Q A 2 L.length M) L) (hl:L.length ≤ 1000) :
  Ct Tryz.prog 161 [.agg (docS (.slice E 0 Q A 2 L.length M) (.slice bn 0 bb be 6 bl bc) w s),.va (.ptr ⟨1,0,0,0,0⟩)] F (wrH false 0 []) 3 (wrL (pmot L)):=by
 obtain ⟨aj,ag,ai,ak,U,al,W,i,T,ah,aa⟩:=ha;cases W
 refine ct_of hΘ Tryz.func161 rfl (by decide) _ _ rfl rfl rfl ?_;refine za7 4 (fun _=>.arr 3 1 ([((L.length:Nat):Int)].map encI) 1) rfl rfl rfl (fun _ _=>rfl) (fun _ _=>SB.bB_ok rfl) ?_;intro b1 F1 l1 Z;refine use (zdw hP F1 _ [((L.length:Nat):Int)] false [] 0 (fun _=>rfl) (Sl.new (l:=[((L.length:Nat):Int)]) (cap:=1) (Z 0 rfl)) (by simp) (by simp)) [(1,1),(2,2)] rfl ⟨rfl,⟨rfl,rfl,rfl,.inr ⟨rfl,rfl,rfl,rfl⟩⟩,tv⟩ rfl ⟨zas _ (by omega) (by omega) _ _,zai zab _ _ _ _ _,tv⟩ (by simp [SV.below,SA.below]) ⟨zb2 (by rfl) (by rfl),zax zab (zay _ _ _ _),tv⟩ ?_;rintro p F' h0 n0 R ⟨rfl,rfl,rfl,u1,c1,S,rfl⟩
 refine zam hΘ (X:={ x:Nat × List UInt8 × Nat × Bool × Fz // Fz.le F x.2.2.2.2 ∧ x.1 ≤ L.length ∧ x.2.1 = zae [((L.length:Nat):Int)] ++ ((L.take x.1).map fun x=>zae [x.2]).flatten ∧ (x.2.2.2.1 = false → x.2.1 = []) }) (fun x=>[(17,.va (.int .i64 x.1.1))]) [5,18,19,20,21,22,23,24,25,26]
  (fun x=>[(0,.frz x.1.2.2.2.2),(1,wrC x.1.2.2.2.1 1 6 x.1.2.2.1 x.1.2.1),(3,docE4 (.slice E 0 Q A 2 L.length M) (.slice bn 0 bb be 6 bl bc) w s),(5,.gone),(6,gE 5 1 encB x.1.2.2.1 x.1.2.1)]) 7 (fun x=>L.length - x.1.1) ⟨(0,[] ++ zae [((L.length:Nat):Int)],c1,u1,F1),l1,by simpa using S⟩
  (fun B V=>leI [(6,5)] B V rfl ⟨tv,zas _ (by omega) (by omega) _ _,zbu (.inr (by omega)) (.inr (by omega)),tv,zai zab _ _ _ _ _,tv⟩ ⟨rfl,tv⟩ ⟨Fz.r F1,zb5 (i':=1) (j':=5) (by rfl) (by rfl) (by rfl) (by rfl) rfl,rfl,zbl zab,tv⟩) ?_
 rintro ⟨⟨k,ob,Y,y,G⟩,h,hk,a,b⟩ B V;replace h:Fz.le F G:=h;replace hk:k ≤ L.length:=hk;replace a:ob = zae [((L.length:Nat):Int)] ++ ((L.take k).map fun x=>zae [x.2]).flatten:=a;replace b:y = false → ob = []:=b
 have af:ob.length ≤ 100000000000:=by
  have h9:=zn7 (L.take k);have h8:=za0 [((L.length:Nat):Int)];rw [qq] at h9;rw [yk] at h8;rw [a,qd]; omega
 by_cases g:k < L.length
 ·have d:(k:Int) < (L.length:Nat):=by omega
  have j:0 ≤ (k:Int) ∧ (k:Int) < (L.length:Nat):=by omega
  have O:∃ t m,L[k] = (t,m):=⟨_,_,rfl⟩
  obtain ⟨t,m,f⟩:=O;have I:U[A + (k:Int).toNat]? = some (encN (t,m)):=by rw [← f]; exact Sl.at aa g
  have e:ob ++ zae [m] = zae [((L.length:Nat):Int)] ++ ((L.take (k + 1)).map fun x=>zae [x.2]).flatten:=by rw [zb1 g,f,a,ql]
  have D:k + 1 ≤ L.length:=g;have q:L.length - (k + 1) < L.length - k:=by omega
  have n:k < 4611686018427387904:=by omega
  have u:=h _ _ (T (Sl.lt i g));refine bri d ?_;refine ⟨Sl.lt i g,j,_,u,_,I,?_⟩;refine za7 8 (fun _=>.arr 3 1 ([m].map encI) 1) rfl rfl rfl (fun _ _=>rfl) (fun _ _=>SB.bB_ok rfl) ?_;intro b2 J l2 K;refine use (zdw hP J _ [m] y ob Y b (Sl.new (l:=[m]) (cap:=1) (K 0 rfl)) (by simp) (by omega)) [(1,1),(2,6)] rfl ⟨rfl,⟨rfl,rfl,rfl,.inr ⟨rfl,rfl,rfl,rfl⟩⟩,tv⟩ rfl ⟨zas _ (by omega) (by omega) _ _,zai zab _ _ _ _ _,tv⟩ (by simp [SV.below,SA.below]) ⟨zb2 (by rfl) (by rfl),zax zab (zay _ _ _ _),tv⟩ ?_;rintro p F' h0 n0 R ⟨rfl,rfl,rfl,u2,c2,ad,rfl⟩;exact ⟨⟨(k + 1,ob ++ zae [m],c2,u2,J),Fz.t h l2,D,e,ad⟩,q,leR [(6,9)] B V rfl ⟨tv,zas _ (by omega) (by omega) _ _,zbu (.inr (by omega)) (.inr (by omega)),tv,zai zab _ _ _ _ _,tv⟩ ⟨cnt n,tv⟩ ⟨Fz.r J,zb5 (i':=1) (j':=9) (by rfl) (by rfl) (by rfl) (by rfl) rfl,rfl,zbl zab,tv⟩⟩
 ·have d:¬ (k:Int) < (L.length:Nat):=by omega
  have c:ob = pmot L:=by rw [a,pmot,qn (by omega)]
  refine brj d ?_;exact clean [(3,6)] (.ret (.tup [])) G (wrM y Y ob) 4 ⟨h,rfl,rfl,y,Y,by rw [← c]; exact b,by rw [c]⟩ trivial rfl rfl (Out.bB_ok (o:=.ret (.tup [])) rfl) (zcb _ _ _) ⟨Fz.r G,zb2 (by rfl) (by rfl),zax zab (zay _ _ _ _),tv⟩
theorem yb6 (u:PFun) (F:Fz) (h:Bool) (n y a k:Nat) (x:Bool) (m i b j:Nat) (w:Int) (s:List UInt8) :
  Ct Tryz.prog 170 [.agg (docS (.slice h 0 n y 2 a k) (.slice x 0 m i 6 b j) w s),.va (.ptr ⟨1,0,0,0,0⟩)] F (wrH false 0 []) 3 (wrL (zae [((a:Nat):Int),((b:Nat):Int)])):=by
 refine ct_of hΘ Tryz.func170 rfl (by decide) _ _ rfl rfl rfl ?_;refine za7 4 (fun _=>.arr 3 1 ([((a:Nat):Int),((b:Nat):Int)].map encI) 2) rfl rfl rfl (fun _ _=>rfl) (fun _ _=>SB.bB_ok rfl) ?_;intro A F1 q d;refine use (zdw u F1 _ [((a:Nat):Int),((b:Nat):Int)] false [] 0 (fun _=>rfl) (Sl.new (l:=[((a:Nat):Int),((b:Nat):Int)]) (cap:=2) (d 0 rfl)) (by simp) (by simp)) [(1,1),(2,2)] rfl ⟨rfl,⟨rfl,rfl,rfl,.inr ⟨rfl,rfl,rfl,rfl⟩⟩,tv⟩ rfl ⟨zas _ (by omega) (by omega) _ _,zai zab _ _ _ _ _,tv⟩ (by simp [SV.below,SA.below]) ⟨zb2 (by rfl) (by rfl),zax zab (zay _ _ _ _),tv⟩ ?_;rintro g D B n0 p ⟨rfl,rfl,rfl,f,e,c,rfl⟩;exact clean [(3,5)] (.ret (.tup [])) F1 (wrM f e _) 4 ⟨q,rfl,rfl,f,e,c,rfl⟩ trivial rfl rfl (Out.bB_ok (o:=.ret (.tup [])) rfl) (zcb _ _ _) ⟨Fz.r F1,zb5 (i':=1) (j':=5) (by rfl) (by rfl) (by rfl) (by rfl) rfl,zbl zab,tv⟩
theorem yds (D:PFun) (F:Fz) (d:Bool) (n x g j:Nat) (q:Bool) (m e y f:Nat) (w:Int) (s:List UInt8) (E:s.length ≤ 1000000) :
  Ct Tryz.prog 167 [.agg (docS (.slice d 0 n x 2 g j) (.slice q 0 m e 6 y f) w s),.va (.ptr ⟨1,0,0,0,0⟩)] F (wrH false 0 []) 3 (wrL (zae [w,hgt w s])):=by
 have h:=zky F (.slice d 0 n x 2 g j) (.slice q 0 m e 6 y f) w s (by omega);have a:∃ z,hgt w s = z:=⟨_,rfl⟩
 obtain ⟨z,A⟩:=a;rw [A] at h ⊢;refine ct_of hΘ Tryz.func167 rfl (by decide) _ _ rfl rfl rfl ?_;refine drawP hΘ mixed (lk [0,1,2,3,4] (.alt 5 (.alt 6 (.alt 7 .done .nil) .nil) .nil)) [3] (by kernel_rfl) ?_;conv=>whnf
 repeat' ((conv=>whnf); first
  |refine ⟨rfl,?_⟩
  |refine ⟨Fz.r _,rfl,?_⟩
  |refine ⟨Fz.r _,rfl,rfl,?_⟩
  |refine ⟨⟨by simp,by simp⟩,?_⟩
  |fail)
 refine usePu h rfl (zaa _) rfl ?_
 repeat' ((conv=>whnf); first
  |refine ⟨rfl,?_⟩
  |refine ⟨Fz.r _,rfl,?_⟩
  |refine ⟨Fz.r _,rfl,rfl,?_⟩
  |refine ⟨⟨by simp,by simp⟩,?_⟩
  |fail)
 refine za7 4 (fun _=>.arr 3 1 ([w,z].map encI) 2) rfl rfl rfl (fun _ _=>rfl) (fun _ _=>SB.bB_ok rfl) ?_;intro G F1 p c;refine use (zdw D F1 _ [w,z] false [] 0 (fun _=>rfl) (Sl.new (l:=[w,z]) (cap:=2) (c 0 rfl)) (by simp) (by simp)) [(1,1),(2,2)] rfl ⟨rfl,⟨rfl,rfl,rfl,.inr ⟨rfl,rfl,rfl,rfl⟩⟩,tv⟩ rfl ⟨zas _ (by omega) (by omega) _ _,zai zab _ _ _ _ _,tv⟩ (by simp [SV.below,SA.below]) ⟨zb2 (by rfl) (by rfl),zax zab (zay _ _ _ _),tv⟩ ?_;rintro u J I n0 B ⟨rfl,rfl,rfl,k,i,b,rfl⟩;refine ⟨p,rfl,?_⟩;exact clean [(3,5)] (.ret (.tup [])) F1 (wrM k i _) 4 ⟨p,rfl,rfl,k,i,b,rfl⟩ trivial rfl rfl (Out.bB_ok (o:=.ret (.tup [])) rfl) (zcb _ _ _) ⟨Fz.r F1,zb5 (i':=1) (j':=5) (by rfl) (by rfl) (by rfl) (by rfl) rfl,zbl zab,tv⟩
theorem ydr (A:PFun) (F:Fz) (i:Bool) (x D m q:Nat) (B:Bool) (u j E k:Nat) (w:Int) (s:List UInt8) (M:s.length ≤ 1000000) :
  Ct Tryz.prog 169 [.agg (docS (.slice i 0 x D 2 m q) (.slice B 0 u j 6 E k) w s),.va (.ptr ⟨1,0,0,0,0⟩)] F (wrH false 0 []) 3 (wrL (zae [w,hgt w s] ++ (putSR s).1)):=by
 have n:=zky F (.slice i 0 x D 2 m q) (.slice B 0 u j 6 E k) w s (by omega);have b:∃ z,hgt w s = z:=⟨_,rfl⟩
 obtain ⟨z,G⟩:=b;rw [G] at n ⊢;refine ct_of hΘ Tryz.func169 rfl (by decide) _ _ rfl rfl rfl ?_;refine drawP hΘ mixed (lk [0,1,2,3,4] (.alt 5 (.alt 6 (.alt 7 .done .nil) .nil) .nil)) [3] (by kernel_rfl) ?_;conv=>whnf
 repeat' ((conv=>whnf); first
  |refine ⟨rfl,?_⟩
  |refine ⟨Fz.r _,rfl,?_⟩
  |refine ⟨Fz.r _,rfl,rfl,?_⟩
  |refine ⟨⟨by simp,by simp⟩,?_⟩
  |fail)
 refine usePu n rfl (zaa _) rfl ?_
 repeat' ((conv=>whnf); first
  |refine ⟨rfl,?_⟩
  |refine ⟨Fz.r _,rfl,?_⟩
  |refine ⟨Fz.r _,rfl,rfl,?_⟩
  |refine ⟨⟨by simp,by simp⟩,?_⟩
  |fail)
 refine za7 4 (fun _=>.arr 3 1 ([w,z].map encI) 2) rfl rfl rfl (fun _ _=>rfl) (fun _ _=>SB.bB_ok rfl) ?_;intro O F1 y f;refine use (zdw A F1 _ [w,z] false [] 0 (fun _=>rfl) (Sl.new (l:=[w,z]) (cap:=2) (f 0 rfl)) (by simp) (by simp)) [(1,1),(2,2)] rfl ⟨rfl,⟨rfl,rfl,rfl,.inr ⟨rfl,rfl,rfl,rfl⟩⟩,tv⟩ rfl ⟨zas _ (by omega) (by omega) _ _,zai zab _ _ _ _ _,tv⟩ (by simp [SV.below,SA.below]) ⟨zb2 (by rfl) (by rfl),zax zab (zay _ _ _ _),tv⟩ ?_;rintro a L I n0 c ⟨rfl,rfl,rfl,K,J,d,rfl⟩;refine ⟨y,rfl,?_⟩;conv=>whnf
 have e:=za0 [w,z];rw [show [w,z].length = 2 from rfl] at e;refine use (ztg A F1 K s ([] ++ zae [w,z]) J d (by omega) (by rw [qw]; omega)) [(1,1),(2,5)] rfl ⟨rfl,rfl,tv⟩ rfl ⟨zas _ (by omega) (by omega) _ _,zai zab _ _ _ _ _,tv⟩ (by simp [SV.below,SA.below]) ⟨zb5 (i':=1) (j':=5) (by rfl) (by rfl) (by rfl) (by rfl) rfl,zbl zab,tv⟩ ?_;rintro a L I n0 c ⟨rfl,rfl,rfl,p,h,g,rfl⟩;exact clean [(3,6)] (.ret (.tup [])) F1 (wrM p h _) 4 ⟨y,rfl,rfl,p,h,g,rfl⟩ trivial rfl rfl (Out.bB_ok (o:=.ret (.tup [])) rfl) (zcb _ _ _) ⟨Fz.r F1,zb5 (i':=1) (j':=6) (by rfl) (by rfl) (by rfl) (by rfl) rfl,zbl zab,tv⟩
def pvals (K:List Cel):List UInt8:=zae [(K.length:Int)] ++ ((K.zip (valsF K)).map fun x=>zae [x.1.row,x.1.col,x.2]).flatten
theorem zqz:∀ (l d:List Cel) (o:List Int),(valsA l d o).length = l.length + o.length
 |[],d,o=>by simp [valsA]
 |c :: r,d,o=>by rw [valsA,zqz,qd]; simp only [qh,qt]; omega
theorem zdg (l:List Cel):(valsF l).length = l.length:=by rw [valsF,zqz,qt]; rfl
theorem zkd:∀ (l:List (Cel × Int)),((l.map fun x=>zae [x.1.row,x.1.col,x.2]).flatten).length ≤ l.length * 1000
 |[]=>by simp
 |x :: r=>by
  have h1:=za0 [x.1.row,x.1.col,x.2];have a:=zkd r;rw [show [x.1.row,x.1.col,x.2].length = 3 from rfl] at h1;rw [qv,jx,qd,qh];omega
theorem zmq (F:Fz) (m:Bool) (q x n p:Nat) (l:Bool) (h f e:Nat) (K:List Cel) (w:Int) (s:List UInt8) (S:Sl F 151 6 encK (.slice l 0 h f 6 K.length e) K) (D:K.length ≤ 1000) (d:K.length ≤ e) :
  Fo Tryz.prog F 166 [.agg (docS (.slice m 0 q x 2 n p) (.slice l 0 h f 6 K.length e) w s)] (fun o u=>(o = .ret (.va .nilsl) ∧ K = []) ∨ (∃ b c L a,o = .ret (.va (.slice false 0 b 0 1 K.length c)) ∧ u b = some (.arr 3 1 L a) ∧ ∀ (k:Nat) (v:Int),(valsF K)[k]? = some v → L[0 + (k:Int).toNat]? = some (encI v))):=by
 refine zb9 (zxi F m q x n p l h f e K w s S D d) ?_;rintro o u ⟨r,rfl,⟨I,rfl⟩ | ⟨G,V,U,rfl⟩⟩
 ·exact .inl ⟨rfl,I⟩
 ·obtain ⟨O,y,T,M,J,B,j,R,i,E,g⟩:=G;cases j
  rw [zdg];refine .inr ⟨_,_,_,_,rfl,i rfl,fun k v A=>?_⟩;obtain ⟨h1,Q⟩:=qi.1 A;rw [← Q];exact Sl.at g h1
theorem yc8 (hP:PFun) (F:Fz) (an:Bool) (ab ae al ac:Nat) (bn:Bool) (bb D B:Nat) (K:List Cel) (w:Int) (s:List UInt8) (hb:Sl F 151 6 encK (.slice bn 0 bb D 6 K.length B) K) (hl:K.length ≤ 1000) (S:K.length ≤ B) :
  Ct Tryz.prog 165 [.agg (docS (.slice an 0 ab ae 2 al ac) (.slice bn 0 bb D 6 K.length B) w s),.va (.ptr ⟨1,0,0,0,0⟩)] F (wrH false 0 []) 3 (wrL (pvals K)):=by
 have p:=fun F1 (A:Fz.le F F1)=>zmq F1 an ab ae al ac bn bb D B K w s (hb.mono A) hl S
 have I:K = [] → pvals K = [] ++ zae [((K.length:Nat):Int)]:=fun h=>by subst h; simp [pvals]
 have ai:=zdg K;obtain ⟨ax,aw,az,a0,ak,au,ag,M,aa,ay,ad⟩:=hb;cases ag
 refine ct_of hΘ Tryz.func165 rfl (by decide) _ _ rfl rfl rfl ?_;refine za7 4 (fun _=>.arr 3 1 ([((K.length:Nat):Int)].map encI) 1) rfl rfl rfl (fun _ _=>rfl) (fun _ _=>SB.bB_ok rfl) ?_;intro b1 F1 A E;refine use (zdw hP F1 _ [((K.length:Nat):Int)] false [] 0 (fun _=>rfl) (Sl.new (l:=[((K.length:Nat):Int)]) (cap:=1) (E 0 rfl)) (by simp) (by simp)) [(1,1),(2,2)] rfl ⟨rfl,⟨rfl,rfl,rfl,.inr ⟨rfl,rfl,rfl,rfl⟩⟩,tv⟩ rfl ⟨zas _ (by omega) (by omega) _ _,zai zab _ _ _ _ _,tv⟩ (by simp [SV.below,SA.below]) ⟨zb2 (by rfl) (by rfl),zax zab (zay _ _ _ _),tv⟩ ?_;rintro L F' h0 n0 af ⟨rfl,rfl,rfl,Z,R,T,rfl⟩;refine useFo (p F1 A) rfl (zaa _) rfl ?_;rintro _ d l2 (⟨rfl,hK⟩ | ⟨vb,vc,vL,vr,rfl,aq,ao⟩)
 ·refine zam hΘ (X:={ x:Nat // x = 0 }) (fun x=>[(16,.va (.int .i64 x.1))]) [4,5,17,18,19,20,21,22,23,24,25,26,27,28,29,30,31,32,33,34,35,36,37,38,39]
   (fun x=>[(0,.frz d),(1,wrC Z 1 6 R ([] ++ zae [((K.length:Nat):Int)])),(5,.gone),(6,gE 5 1 encB R ([] ++ zae [((K.length:Nat):Int)]))]) 7 (fun x=>0) ⟨0,rfl⟩
   (fun y u=>leI [(6,5)] y u rfl ⟨tv,zas _ (by omega) (by omega) _ _,tv,zai zab _ _ _ _ _,tv⟩ ⟨rfl,tv⟩ ⟨Fz.r d,zb5 (i':=1) (j':=5) (by rfl) (by rfl) (by rfl) (by rfl) rfl,zbl zab,tv⟩) ?_
  rintro ⟨k,rfl⟩ y u;refine br (fun g2=>absurd g2 (by decide)) (fun _=>?_);exact clean [(3,6)] (.ret (.tup [])) d (wrM Z R ([] ++ zae [((K.length:Nat):Int)])) 4 ⟨Fz.t A l2,rfl,rfl,Z,R,by rw [I hK]; exact T,by rw [I hK]⟩ trivial rfl rfl (Out.bB_ok (o:=.ret (.tup [])) rfl) (zcb _ _ _) ⟨Fz.r d,zb2 (by rfl) (by rfl),zax zab (zay _ _ _ _),tv⟩
 ·refine zam hΘ (X:={ x:Nat × List UInt8 × Nat × Bool × Fz // Fz.le d x.2.2.2.2 ∧ x.1 ≤ K.length ∧ x.2.1 = zae [((K.length:Nat):Int)] ++ (((K.zip (valsF K)).take x.1).map fun x=>zae [x.1.row,x.1.col,x.2]).flatten ∧ (x.2.2.2.1 = false → x.2.1 = []) }) (fun x=>[(16,.va (.int .i64 x.1.1))]) [4,5,17,18,19,20,21,22,23,24,25,26,27,28,29,30,31,32,33,34,35,36,37,38,39]
   (fun x=>[(0,.frz x.1.2.2.2.2),(1,wrC x.1.2.2.2.1 1 6 x.1.2.2.1 x.1.2.1),(3,docE4 (.slice an 0 ab ae 2 al ac) (.slice bn 0 bb D 6 K.length B) w s),(5,.gone),(6,gE 5 1 encB x.1.2.2.1 x.1.2.1)]) 7 (fun x=>K.length - x.1.1) ⟨(0,[] ++ zae [((K.length:Nat):Int)],R,Z,d),Fz.r d,by simpa using T⟩
   (fun y u=>leI [(6,5)] y u rfl ⟨tv,zas _ (by omega) (by omega) _ _,zbu (.inr (by omega)) (.inr (by omega)),tv,zai zab _ _ _ _ _,tv⟩ ⟨rfl,tv⟩ ⟨Fz.r d,zb5 (i':=1) (j':=5) (by rfl) (by rfl) (by rfl) (by rfl) rfl,rfl,zbl zab,tv⟩) ?_
  rintro ⟨⟨k,ob,cb,Y,G⟩,q,hk,a,b⟩ y u;replace q:Fz.le d G:=q;replace hk:k ≤ K.length:=hk;replace a:ob = zae [((K.length:Nat):Int)] ++ (((K.zip (valsF K)).take k).map fun x=>zae [x.1.row,x.1.col,x.2]).flatten:=a;replace b:Y = false → ob = []:=b;have av:(K.zip (valsF K)).length = K.length:=by rw [qak,ai]; omega
  have ar:ob.length ≤ 100000000000:=by
   have h9:=zkd ((K.zip (valsF K)).take k);have h8:=za0 [((K.length:Nat):Int)];rw [qq] at h9;rw [yk] at h8;rw [a,qd]; omega
  by_cases g:k < K.length
  ·have n:(k:Int) < (K.length:Nat):=by omega
   have e:0 ≤ (k:Int) ∧ (k:Int) < (K.length:Nat):=by omega
   have gv:k < (valsF K).length:=by omega
   have ap:∃ c v,K[k] = c ∧ (valsF K)[k] = v:=⟨_,_,rfl,rfl⟩
   obtain ⟨c,v,j,m⟩:=ap;have ah:ak[D + (k:Int).toNat]? = some (encK c):=by rw [← j]; exact Sl.at ad g
   have U:vL[0 + (k:Int).toNat]? = some (encI v):=by rw [← m]; exact ao k _ (qe gv)
   have Q:ob ++ zae [c.row,c.col,v] = zae [((K.length:Nat):Int)] ++ (((K.zip (valsF K)).take (k + 1)).map fun x=>zae [x.1.row,x.1.col,x.2]).flatten:=by
    have gz:k < (K.zip (valsF K)).length:=by omega
    rw [zb1 gz,qc4,j,m,a,ql]
   have am:k + 1 ≤ K.length:=g;have W:K.length - (k + 1) < K.length - k:=by omega
   have V:k < 4611686018427387904:=by omega
   have O:=(Fz.t A (Fz.t l2 q)) _ _ (aa (Sl.lt M g));have i:=q _ _ aq;clear j m;refine bri n ?_;refine ⟨rfl,e,_,i,_,U,?_⟩;refine drawP hΘ mixed (lk [0,1,2,3,4,5,6,7,8,9,10,11,12,13,14,15] (.alt 16 (.alt 17 .done .nil) .nil)) [3] (by kernel_rfl) ?_;conv=>whnf
   repeat' ((conv=>whnf); first
    |refine ⟨Sl.lt M g,e,?_⟩
    |refine ⟨_,O,?_⟩
    |refine ⟨_,ah,?_⟩
    |refine ⟨rfl,?_⟩
    |refine ⟨Fz.r _,rfl,?_⟩
    |refine ⟨Fz.r _,rfl,rfl,?_⟩
    |refine ⟨⟨by simp,by simp⟩,?_⟩
    |fail)
   refine za7 7 (fun _=>.arr 3 1 ([c.row,c.col,v].map encI) 3) rfl rfl rfl (fun _ _=>rfl) (fun _ _=>SB.bB_ok rfl) ?_;intro b2 G2 l3 J;refine use (zdw hP G2 _ [c.row,c.col,v] Y ob cb b (Sl.new (l:=[c.row,c.col,v]) (cap:=3) (J 0 rfl)) (by simp) (by omega)) [(1,1),(2,6)] rfl ⟨rfl,⟨rfl,rfl,rfl,.inr ⟨rfl,rfl,rfl,rfl⟩⟩,tv⟩ rfl ⟨zas _ (by omega) (by omega) _ _,zai zab _ _ _ _ _,tv⟩ (by simp [SV.below,SA.below]) ⟨zb2 (by rfl) (by rfl),zax zab (zay _ _ _ _),tv⟩ ?_;rintro L F' h0 n0 af ⟨rfl,rfl,rfl,u2,c2,aj,rfl⟩;refine ⟨l3,rfl,?_⟩;exact ⟨⟨(k + 1,ob ++ zae [c.row,c.col,v],c2,u2,G2),Fz.t q l3,am,Q,aj⟩,W,leR [(6,8)] y u rfl ⟨tv,zas _ (by omega) (by omega) _ _,zbu (.inr (by omega)) (.inr (by omega)),tv,zai zab _ _ _ _ _,tv⟩ ⟨cnt V,tv⟩ ⟨Fz.r G2,zb5 (i':=1) (j':=8) (by rfl) (by rfl) (by rfl) (by rfl) rfl,rfl,zbl zab,tv⟩⟩
  ·have n:¬ (k:Int) < (K.length:Nat):=by omega
   have f:ob = pvals K:=by rw [a,pvals,qn (by omega)]
   refine brj n ?_;exact clean [(3,6)] (.ret (.tup [])) G (wrM Y cb ob) 4 ⟨Fz.t A (Fz.t l2 q),rfl,rfl,Y,cb,by rw [← f]; exact b,by rw [f]⟩ trivial rfl rfl (Out.bB_ok (o:=.ret (.tup [])) rfl) (zcb _ _ _) ⟨Fz.r G,zb2 (by rfl) (by rfl),zax zab (zay _ _ _ _),tv⟩
theorem zad:Plain encK:=fun x=>⟨fun μ=>rfl,fun a b=>by
 simp only [encK,qj,qs,or_false] at b;rcases b with rfl | rfl | rfl | rfl | rfl | rfl<;>trivial⟩
theorem ztc (F:Fz) (w:Bool) (u p q:Nat) (K:List Cel) (b:K ≠ []) (G:Sl F 151 6 encK (.slice w 0 u p 6 K.length q) K) (s:K.length ≤ 1000) :
  Ct Tryz.prog 87 [.va (.slice w 0 u p 6 K.length q)] F [] 1
   (fun o I A n0=>n0 = 2 ∧ ∃ c,K.length ≤ c ∧ o = .ret (.va (.slice false 1 0 0 6 K.length c)) ∧ A = [(1,gE 151 6 encK c K)]):=by
 obtain ⟨y,D,B,E,e,f,j,l,h,g,i⟩:=G;cases j
 have k:0 < K.length:=qa5.2 b;have m:=Sl.lt l k;subst m;have a:=h rfl;rcases K with _ | ⟨x,r⟩
 ·exact absurd rfl b
 replace s:r.length + 1 ≤ 1000:=s;refine ct_of hΘ Tryz.func87 rfl (by decide) _ _ rfl rfl rfl ?_;refine brd (by decide) ?_;refine ⟨151,e,f,a,g,(x :: r).map encK,i,rfl,rfl,rfl,by show (0 + ((x :: r).map encK).length) * 48 ≤ 140737488355328; rw [qa,qh]; omega,fun c' n=>?_⟩;have d:=n;clear n;exact clean [(1,2)] (.ret (.va (.slice false 1 0 0 6 (x :: r).length c'))) F [(1,gE 151 6 encK c' (x :: r))] 2 ⟨Fz.r F,rfl,c',by simpa using d,rfl,rfl⟩ ⟨rfl,(by first | rfl | (rw [qa]; omega)),(by first | rfl | (rw [qa]; omega)),.inr ⟨rfl,rfl,rfl,rfl⟩⟩ rfl rfl (Out.bB_ok (o:=.ret (.va (.slice false 1 0 0 6 (x :: r).length c'))) rfl) ⟨zai zad _ _ _ _ _,tv⟩ ⟨Fz.r F,zax zad (zcs _ (by rfl)),tv⟩
end Go.Proofs.YtfnkamphhpldcaaGreatDoor
namespace Go.Proofs.YtfnkamphhpldcaaGreatDoor
open Go Go.RowKit Sx
set_option maxRecDepth 100000 in
theorem z0x (b g cap cells:Nat) (l:List UInt8) (w:World) (h0:l ≠ []) (c1:w.cell? ⟨b,1,none⟩ = some (.slice (some ⟨g,0,none⟩) l.length cap)) (hc:l.length ≤ cap) (hcs:l.length ≤ cells) (hm:l.length ≤ 1000000000000000)
  (hsh:w.shape? g = some (5,cells)) (hcell:∀ j x,l[j]? = some x → w.cell? ⟨g,j,none⟩ = some (.int .u8 x.toNat)) :
  Calls Tryz.prog 104 #[.pointer (some ⟨b,0,none⟩)] w fun e w'=>e = .returned (.string ⟨l.toArray⟩) ∧ w' = w.drew.freeze ⟨g,0,none⟩ l.length:=by
 have hl0:l.length ≠ 0:=by simpa using h0
 have d1:w.drew.cell? ⟨b,1,none⟩ = some (.slice (some ⟨g,0,none⟩) l.length cap):=c1
 have hSD:(Builtin.unsafeSliceData_ #[81] 238 #[.slice (some ⟨g,0,none⟩) l.length cap]).run Tryz.prog w.drew = .ok (.pointer (some ⟨g,0,none⟩)) w.drew:=
  Lib.run_unsafeSliceData_row _ _ _ _ _ _ (by omega)
 have hUS:(Builtin.unsafeString_ #[238,3] 9 #[.pointer (some ⟨g,0,none⟩),.int .i64 l.length]).run Tryz.prog w.drew = .ok (.string ⟨l.toArray⟩) (w.drew.freeze ⟨g,0,none⟩ l.length):=by
  refine Lib.run_unsafeString_row w.drew 238 3 9 5 Tryz.underlying238 (by kernel_rfl) g cells hsh l h0 hcs (by omega) ?_;intro j x hx;rw [addr_add,q5];exact hcell j x hx
 go_enter Tryz.func104,Tryz.ntmps104
 go_wp2
 go_region
 all_goals (go_wp2; go_ret; exact ⟨rfl,rfl⟩)
theorem Sat.trash {C:Ctx} {ρ:Rho} {h:Hp} {nx:Nat} {w a:World} (s:Sat C ρ h nx w) {i:Nat} {e:Ent} (g:lget h i = some e) (u:e.plain = true) (q:e.has 0) (p:∀ k,e.has k → k = 0) {f:Obj} (l:a.os = w.os) (x:a.tape = w.tape) (y:a.output = w.output) (j:a.heap.size = w.heap.size)
  (d:a.heap[ρ i 0]? = some f) (c:∀ b,b ≠ ρ i 0 → a.heap[b]? = w.heap[b]?):Sat C ρ (lput (lput h i (.one (.obj f))) i .gone) nx a:=by
 have B:=s.lt i _ g;have m:=s.ne0 g u;refine Sat.forget (s.upd (e':=.one (.obj f)) 0 g u rfl q ?_ f ?_ rfl trivial l x y j d c) B m
 ·intro n;constructor
  ·rintro rfl; exact q
  ·intro h; exact p n h
 ·intro n o A;exact absurd (p n A) o
theorem zfb {h:Hp} {nx:Nat} {K:Out → Hp → Nat → Prop} {i j c:Nat} {u:Bool} {l:List UInt8} (Y:l ≠ []) (hm:l.length ≤ 1000000000000000) {e1 Z:Ent} (he:lget h i = some e1) (Q:e1 = wrC u i j c l) (M:lget h j = some Z) (J:Z = gE 5 1 encB c l)
  (I:∀ A,K (.ret (.va (.str l))) (lput (lput h j (.one (.obj A))) j .gone) nx):zba Tryz.prog 104 [.va (.ptr ⟨i,0,0,0,0⟩)] h nx K:=by
 subst Q;subst J;obtain ⟨f,d,rfl⟩:=List.exists_cons_of_ne_nil Y;unfold zba;intro C ρ w vs S U hb;refine ⟨Sx.enters_of Tryz.func104 rfl (by decide),?_⟩
 match vs,U with
 |[v],U=>
  have hv:v = .pointer (some ⟨ρ i 0,0,none⟩):=by
   have h1:=U.1;simpa [SV.rel,SA.den,Pl.addr] using h1
  subst hv;obtain ⟨o,ho,R⟩:=S.blk i _ he 0 (by cases u<;>rfl);have s:RowAt w (ρ i 0) 174 ([wrA u i,gA 1 j c (f :: d)].map (SA.den ρ)):=⟨o,ho,by cases u<;>exact R⟩
  have c1:w.cell? ⟨ρ i 0,1,none⟩ = some (.slice (some ⟨ρ j 0,0,none⟩) (f :: d).length c):=by
   rw [s.cell]; simp [gA,SA.den]
  obtain ⟨o2,B,D⟩:=S.blk j _ M 0 ⟨rfl,rfl⟩;obtain ⟨k1,W,g,k3,k4⟩:=D;have n:RowAt w (ρ j 0) 5 ((((f :: d).map encB).flatten).map (SA.den ρ) ++ g):=⟨o2,B,k4⟩
  have q:(((f :: d).map encB).flatten).map (SA.den ρ) = (f :: d).map fun x=>Value.int .u8 x.toNat:=by
   have h1:((f :: d).map encB).flatten = (f :: d).map fun b=>SA.int .u8 b.toNat:=zd1 (f :: d)
   rw [h1,q9]; rfl
  have m:∀ k x,(f :: d)[k]? = some x → w.cell? ⟨ρ j 0,k,none⟩ = some (.int .u8 x.toNat):=by
   intro k x X;have E:k < ((f :: d).map fun x=>Value.int .u8 x.toNat).length:=by rw [qa]; exact (qi.1 X).1
   rw [n.cell,q,jw E,qy,X]; rfl
  obtain ⟨fr,aa,L⟩:=k4
  have p:∃ a,w.shape? (ρ j 0) = some (5,a) ∧ (f :: d).length ≤ a:=by
   refine ⟨((((f :: d).map encB).flatten).map (SA.den ρ) ++ g).length,?_,?_⟩
   ·simp only [World.shape?,B,L]; rfl
   ·rw [q,qd,qa]; omega
  obtain ⟨a,p,G⟩:=p;have y:=S.blt ⟨_,M,⟨rfl,rfl⟩⟩;have hc:(f :: d).length ≤ c:=by rw [qa] at W; exact W
  refine (z0x (ρ i 0) (ρ j 0) c a (f :: d) w Y c1 hc G hm p m).mono ?_;rintro e w' ⟨rfl,rfl⟩
  have O:∃ A,(w.drew.freeze ⟨ρ j 0,0,none⟩ (f :: d).length).heap[ρ j 0]? = some A:=by
   refine ⟨_,qbq ?_⟩;show ρ j 0 < _;simp only [World.freeze,qh,Nat.add_eq_zero_iff,Nat.succ_ne_self,and_false,if_false,Array.size_modify];exact y
  obtain ⟨A,T⟩:=O;refine ⟨.ret (.va (.str (f :: d))),_,nx,ρ,I A,⟨_,rfl,rfl⟩,?_,fun _ _=>rfl,qm _,tv⟩;refine Sat.trash S.drew M rfl ⟨rfl,rfl⟩ (fun k I=>I.2) ?_ ?_ ?_ ?_ T ?_
  ·unfold World.freeze; split<;>rfl
  ·unfold World.freeze; split<;>rfl
  ·unfold World.freeze; split<;>rfl
  ·unfold World.freeze; split<;>simp
  ·intro b V;unfold World.freeze;split
   ·rfl
   ·simp [qde,Ne.symm V]
end Go.Proofs.YtfnkamphhpldcaaGreatDoor
namespace Go.Proofs.YtfnkamphhpldcaaGreatDoor
open Go Sx
set_option maxRecDepth 100000
def propM:List MapEntry:=[⟨.int .i64 1,.func (.func 158) #[] #[],0⟩,⟨.int .i64 2,.func (.func 161) #[] #[],1⟩,⟨.int .i64 3,.func (.func 162) #[] #[],2⟩,⟨.int .i64 4,.func (.func 164) #[] #[],3⟩,
 ⟨.int .i64 5,.func (.func 165) #[] #[],4⟩,⟨.int .i64 6,.func (.func 167) #[] #[],5⟩,⟨.int .i64 7,.func (.func 169) #[] #[],6⟩,⟨.int .i64 8,.func (.func 170) #[] #[],7⟩]
theorem ze6 (F:Fz):Ct Tryz.prog 103 [] F [] 1 (fun o a b n0=>F = a ∧ n0 = 2 ∧ o = .ret (.va (.map 1 0)) ∧ b = [(1,.one (.obj (.map ⟨propM⟩ 8)))]):=by
 refine ct_of hΘ Tryz.func103 rfl (by decide) _ _ rfl rfl rfl ?_;exact clean [(1,1)] (.ret (.va (.map 1 0))) F [(1,.one (.obj (.map ⟨propM⟩ 8)))] 2 ⟨Fz.r F,rfl,rfl,rfl,rfl⟩ rfl rfl rfl (Out.bB_ok (o:=.ret (.va (.map 1 0))) rfl) ⟨tv,tv⟩ ⟨Fz.r F,rfl,tv⟩
def keepQ (b:Bool) (c:Cel):Bool:=c.sum == b
theorem zpm {α:Type} (q:α → Bool):∀ (l:List α) (n:Nat),(idxG q l n = -1 ∧ l.filter q = l) ∨ ∃ i x,i < l.length ∧ idxG q l n = ((n + i:Nat):Int) ∧ (l.take i).filter q = l.take i ∧ l[i]? = some x ∧ q x = false
 |[],n=>.inl ⟨rfl,rfl⟩
 |x :: r,n=>by
  rw [idxG];split
  ·rename_i h;exact .inr ⟨0,x,by simp,by simp,by simp,rfl,h⟩
  ·rename_i h;have b:q x = true:=by simpa using h
   rcases zpm q r (n + 1) with ⟨h1,a⟩ | ⟨i,y,h1,a,d,e,c⟩
   ·exact .inl ⟨h1,by simp [b,a]⟩
   ·exact .inr ⟨i + 1,y,by simp [h1],by rw [a]; congr 1; omega,by simp [b,d],by simpa using e,c⟩
theorem zqu (F:Fz) (x:Cel) (b:Bool) (k:Nat) (p:F k = some (.cells 4 [.lit b])):Fo Tryz.prog F 225 [.agg (encK x),.va (.ptr (fp k))] (fun o i=>o = .ret (.va (.bool (!keepQ b x))) ∧ i = F):=by
 obtain ⟨e,f,d,c,g,left⟩:=x
 have j:∀ (z:Bool) (a:SA) (h:Hp) (nx:Nat),(!keepQ b ⟨e,f,d,c,g,left⟩) = z → atomE (.bool z) (a.ren (resP h)) → lget h 0 = some (.frz F) → Cln 1 (FoK F fun o i=>o = .ret (.va (.bool (!keepQ b ⟨e,f,d,c,g,left⟩))) ∧ i = F) (.ret (.va a)) h nx:=by
  intro z a h nx m q n;subst m;exact endPu n (Fz.r F) q rfl
 have l:∀ z,keepQ b ⟨e,f,d,c,g,left⟩ = z → keepQ b ⟨e,f,d,c,g,left⟩ = (d == b):=fun _ _=>rfl
 refine fo_of hΘ Tryz.func225 rfl (by decide) _ _ rfl rfl rfl ?_;refine ⟨_,p,?_⟩;exact j (d != b) _ _ _ (by rw [l _ rfl]; cases d<;>cases b<;>rfl) rfl rfl
theorem zzh (F:Fz) (O:SA) (l:List Cel) (b:Bool) (y:Nat) (Y:Sl F 151 6 encK O l) (hl:l.length < 1000000) (U:F y = some (.cells 4 [.lit b])) :
  Fo Tryz.prog F 220 [.va O,.va (.fn (.func 225) [fp y])] (fun o G=>o = .ret (.va (.int .i64 (idxG (keepQ b) l 0))) ∧ G = F):=by
 have n:∀ (x:Int) (h:Hp) (nx:Nat),idxG (keepQ b) l 0 = x → lget h 0 = some (.frz F) →
   Cln 1 (FoK F fun o G=>o = .ret (.va (.int .i64 (idxG (keepQ b) l 0))) ∧ G = F) (.ret (.va (.int .i64 x))) h nx:=by
  intro x h nx T S;exact endPu S (Fz.r F) (oi T) rfl
 obtain ⟨V,Q,J,W,E,Z,rfl,f,D,R,K⟩:=Y;refine fo_of hΘ Tryz.func220 rfl (by decide) _ _ rfl rfl rfl ?_
 refine zam hΘ (X:={ k:Nat // k ≤ l.length ∧ idxG (keepQ b) l 0 = idxG (keepQ b) (l.drop k) k }) (fun k=>[(8,.va (.int .i64 k.1))]) [4,5,9,10,11,12,13,14,15,16,17,18] (fz fun _=>F) 1 (fun k=>l.length - k.1) ⟨0,by simp⟩
  (fun s I=>le0 s I rfl (Fz.r F) rfl ⟨rfl,tv⟩) ?_
 rintro ⟨k,M,c⟩ s I;replace M:k ≤ l.length:=M;replace c:idxG (keepQ b) l 0 = idxG (keepQ b) (l.drop k) k:=c;by_cases g:k < l.length
 ·have q:(k:Int) < (l.length:Nat):=by omega
  have i:0 ≤ (k:Int) ∧ (k:Int) < (l.length:Nat):=by omega
  have B:∃ x,l[k] = x:=⟨_,rfl⟩
  obtain ⟨x,d⟩:=B;have w:E[J + (k:Int).toNat]? = some (encK x):=by rw [← d]; exact Sl.at K g
  have a:=zqu F x b y U;rw [zle _ l k g,d] at c;have u:k + 1 ≤ l.length:=g;have m:l.length - (k + 1) < l.length - k:=by omega
  have j:k < 4611686018427387904:=by omega
  have e:∃ L,keepQ b x = L:=⟨_,rfl⟩
  obtain ⟨L,e⟩:=e;rw [e] at c a;clear d;refine bri q ?_;refine ⟨Sl.lt f g,i,_,D (Sl.lt f g),_,w,?_⟩;refine usePu a rfl (zaa _) rfl ?_;rcases L with _ | _
  ·refine br (fun _=>?_) (fun A=>absurd A (by decide));exact n _ _ _ (c.trans (if_pos rfl)) rfl
  ·refine br (fun A=>absurd A (by decide)) (fun _=>?_);rw [if_neg (by decide)] at c;exact ⟨⟨k + 1,u,c⟩,m,lr0 s I rfl (Fz.r F) rfl ⟨cnt j,tv⟩⟩
 ·have p:¬ (k:Int) < (l.length:Nat):=by omega
  rw [yg (by omega)] at c;refine brj p ?_;exact n _ _ _ c rfl
end Go.Proofs.YtfnkamphhpldcaaGreatDoor
