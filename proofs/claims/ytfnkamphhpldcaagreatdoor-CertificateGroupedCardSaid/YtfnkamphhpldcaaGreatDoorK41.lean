import Derived.Test.YtfnkamphhpldcaaGreatDoorK40
set_option maxHeartbeats 64000000
namespace Go.Proofs.YtfnkamphhpldcaaGreatDoor
open Go Sx
set_option maxRecDepth 100000
theorem znu {α:Type}:∀ (n:Nat) (l:List α),n ≤ l.length → takeN n l = some (l.take n)
 |0,l,_=>rfl
 |n + 1,[],h=>by simp at h
 |n + 1,x :: r,h=>by rw [takeN,znu n r (by simpa using h)]; rfl
theorem zns {α:Type}:∀ (l:List α) (o:Nat) (a:List α),0 < a.length → (∀ j (h:j < a.length),l[o + j]? = some (a[j]'h)) → zdl l o a.length = some a
 |l,0,a,_,h=>by
  have d:a.length ≤ l.length:=by
   rcases a with _ | ⟨x,r⟩
   ·exact yd _
   ·have:=(qf.1 (h r.length (by simp))).1; simp; omega
  have e:l.take a.length = a:=qdb (by rw [qk]; omega) fun j h1 b=>by
   rw [qc4];have:=(qf.1 (h j b)).2;simpa using this
  have:zdl l 0 a.length = takeN a.length l:=by cases l<;>rfl
  rw [this,znu _ _ d,e]
 |[],o + 1,a,h0,h=>by have:=h 0 h0; simp at this
 |y :: l,o + 1,a,h0,h=>by
  rw [zdl];exact zns l o a h0 fun j c=>by have:=h j c; rw [show o + 1 + j = (o + j) + 1 by omega,qbe] at this; exact this
theorem RawB.rdN {B:SB} {i:Nat} {zs:List Int} {p:Pl} {K:List SA → Prop} (b:0 < zs.length) (h:∀ j (g:j < zs.length),RawB B (i + j) (zs[j]'g)) (d:p.e * p.sz + p.o = i) (c:K (zs.map (.int .i64))):rdB B p zs.length K:=by
 cases B with
 |obj o=>
  cases o with
  |cells cs t fr=>
   refine ⟨zs.map (.int .i64),⟨qa _,fun a f=>?_,fun ρ=>⟨t,fr,cs.toList.take i,cs.toList.drop (i + zs.length),?_,?_⟩⟩,c⟩
   ·obtain ⟨z,_,rfl⟩:=ji.1 f; trivial
   ·congr 1
    apply qc9.1;show cs.toList = _
    have m:((cs.toList.drop i).take zs.length) = (zs.map (SA.int .i64)).map (SA.den ρ):=by
     apply qbq;intro j;rw [qa5,yw];by_cases g:j < zs.length
     ·rw [if_pos g];have k:cs[i + j]? = some (.int .i64 zs[j]):=h j g;rw [Array.getElem?_toList,k];simp [g,SA.den]
     ·rw [if_neg g,qas (by simp; omega)]
    rw [← m,← qdp,qm,yv,yv]
   ·rw [qk];have:=(jm.1 (show cs[i + 0]? = some (.int .i64 zs[0]) from h 0 b)).1;rw [qds,d]; omega
  |_=>exact (h 0 b).elim
 |cells t l=>
  simp only [rdB]
  have e:=zns l i (zs.map (SA.int .i64)) (by simpa using b) fun j g=>by
   rw [yr];exact h j (by simpa using g)
  rw [qa] at e;rw [d,e];exact c
 |arr t sz L room=>exact (h 0 b).elim
def MigR (F:Fz) (y:List SA) (m:Mig):Prop:=∃ sk,y = migS m sk ∧ KpsAt F sk m.keep
theorem MigR.mono {F b:Fz} {y:List SA} {x:Mig} (h:MigR F y x) (a:Fz.le F b):MigR b y x:=by
 obtain ⟨sk,h1,c⟩:=h;exact ⟨sk,h1,KpsAt.up c a⟩
abbrev ztz (F:Fz) (a:SA) (l:List Mig):Prop:=SlR F 32 5 (MigR F) a l
def RowG {α:Type} (R:Fz → List SA → α → Prop) (G:Fz) (l:List α) (o:List ZC):Prop:=o.length = l.length ∧ ∀ (i:Nat) (z:ZC) (x:α),o[i]? = some z → l[i]? = some x → R G z.1 x
theorem RowG.snoc {α:Type} {R:Fz → List SA → α → Prop} {G:Fz} {l:List α} {o:List ZC} (h:RowG R G l o) {x:α} {z:ZC} (c:R G z.1 x):RowG R G (l ++ [x]) (o ++ [z]):=by
 refine ⟨by simp [h.1],fun i e d h1 a=>?_⟩;by_cases g:i < o.length
 ·rw [q8 g] at h1;rw [q8 (h.1 ▸ g)] at a;exact h.2 i e d h1 a
 ·have b:i = o.length:=by
   have:=(qf.1 h1).1;simp at this; omega
  subst b;rw [jt (qi _),qdi] at h1;rw [jt (by rw [h.1]; exact qi _),h.1,qdi] at a;cases h1; cases a; exact c
theorem RowG.sl {α:Type} {R:Fz → List SA → α → Prop} {G:Fz} {l:List α} {o:List ZC} (h:RowG R G l o) {t sz b a cap:Nat} (e:G b = some (.arr t sz (o.map encZ) a)):SlR G t sz (R G) (.slice false 0 b 0 sz l.length cap) l:=
 SlR.new e (by rw [qa]; exact h.1) fun k x d=>by
  have c:k < o.length:=h.1 ▸ (qf.1 d).1;exact ⟨_,by rw [qu,qc c]; rfl,h.2 k _ x (qc c) d⟩
theorem RowG.mono {α:Type} {R:Fz → List SA → α → Prop} (e:∀ {F b:Fz} {y:List SA} {x:α},R F y x → Fz.le F b → R b y x) {G c:Fz} {l:List α} {o:List ZC} (h:RowG R G l o) (a:Fz.le G c):RowG R c l o:=
 ⟨h.1,fun i z x h1 d=>e (h.2 i z x h1 d) a⟩
def mig10 (zs:List Int) (i:Nat):Mig:=made9 (1 + i) (2 + i) (zs.getD (i * 5) 0) (zs.getD (i * 5 + 1) 0) (zs.getD (i * 5 + 2) 0) (zs.getD (i * 5 + 3) 0) (zs.getD (i * 5 + 4) 0)
theorem RawAt.quint {F:Fz} {b a:Nat} {zs:List Int} (h:RawAt F b a zs):∃ B,∀ k:Nat,k * 5 + 4 < zs.length → F b = some B ∧ ∀ (p:Pl) (K:List SA → Prop),p.e * p.sz + p.o = a + k * 5 →
  K [.int .i64 (zs.getD (k * 5) 0),.int .i64 (zs.getD (k * 5 + 1) 0),.int .i64 (zs.getD (k * 5 + 2) 0),.int .i64 (zs.getD (k * 5 + 3) 0),.int .i64 (zs.getD (k * 5 + 4) 0)] → rdB B p 5 K:=by
 obtain ⟨B,f⟩:=h.rdO1;refine ⟨B,fun k q=>⟨(f (k * 5) (by omega)).1,fun p K m l=>?_⟩⟩;refine RawB.rdN (i:=a + k * 5) (zs:=[zs.getD (k * 5) 0,zs.getD (k * 5 + 1) 0,zs.getD (k * 5 + 2) 0,zs.getD (k * 5 + 3) 0,zs.getD (k * 5 + 4) 0]) (by simp) (fun j g=>?_) m l;have n:j < 5:=g;have c:=(f (k * 5 + j) (by omega)).2;have e:∀ i (d:i < zs.length),zs.getD i 0 = zs[i]'d:=fun i d=>by simp [d]
 rcases j with _ | _ | _ | _ | _ | j
 ·show RawB B _ (zs.getD (k * 5) 0); rw [e _ (by omega)]; exact c
 ·show RawB B _ (zs.getD (k * 5 + 1) 0); rw [e _ (by omega)]; exact c
 ·show RawB B _ (zs.getD (k * 5 + 2) 0); rw [e _ (by omega)]; exact c
 ·show RawB B _ (zs.getD (k * 5 + 3) 0); rw [e _ (by omega)]; exact c
 ·show RawB B _ (zs.getD (k * 5 + 4) 0); rw [e _ (by omega)]; exact c
 ·omega
theorem zeb {j k m:Bool} {c o f d p c2 e q i g l x:Nat} {s u:Int} {n:Nat} (h:0 < n):(Ent.one (.cells 27 (caseS j k m c o f d p c2 e q i g l x s u))).below n:=by
 intro a b;simp only [qg,qp,or_false] at b;rcases b with rfl | rfl | rfl | rfl | rfl
 ·exact .inr h
 ·exact .inr h
 ·trivial
 ·trivial
 ·exact .inr h
def zdh (zs:List Int) (n:Nat):List Mig:=(List.range n).map (mig10 zs)
theorem zs4 (zs:List Int) (n:Nat):zdh zs (n + 1) = zdh zs n ++ [mig10 zs n]:=by
 unfold zdh; rw [qcp,qq]; rfl
theorem zjm (zs:List Int) (n:Nat):(zdh zs n).length = n:=by unfold zdh; rw [qa,List.length_range]
def mkZ5 (M:Mig) (a:SA) (h:a.z = true):ZC:=⟨migS M a,fun x b=>by
 simp only [qg,qp,or_false] at b;rcases b with rfl | rfl | rfl | rfl | rfl
 ·rfl
 ·rfl
 ·rfl
 ·rfl
 ·exact h⟩
theorem zos (F:Fz) (n1 n2 n3:Bool) (b1 o1 c1 b2 o2 c2 b3 o3 n c3:Nat) (L:List Stp) (X:List Q3) (r0 r1:Int) (zs:List Int) (h:CaseAt F n1 n2 n3 b1 o1 b2 o2 b3 o3 n L X r0 r1 zs) :
  Fo Tryz.prog F 32 [.agg (caseS n1 n2 n3 b1 o1 c1 b2 o2 c2 b3 o3 n c3 L.length X.length r0 r1)] (fun o u=>∃ sm,o = .ret (.va sm) ∧ ztz u sm (zdh zs (min n 6))):=by
 have Z:=h.raw3;have ae:=h.nl3;have ah:=h.len
 have S:∀ i,i64 (zs.getD i 0):=fun i=>by
  rw [ym];by_cases g:i < zs.length
  ·rw [qc g]; exact h.i3 _ (qy g)
  ·rw [qas (by omega)]; show i64 0; unfold i64; omega
 have hq:=Z.quint;obtain ⟨B,hB⟩:=hq;have O:=fun (G:Fz) (k:Nat)=>z4n G (1 + k) (2 + k) (zs.getD (k * 5) 0) (zs.getD (k * 5 + 1) 0) (zs.getD (k * 5 + 2) 0) (zs.getD (k * 5 + 3) 0) (zs.getD (k * 5 + 4) 0) ⟨S _,S _,S _,S _,S _⟩
 have ai:=h.s3;clear h;refine fo_of hΘ Tryz.func32 rfl (by decide) _ _ rfl rfl rfl ?_;conv=>whnf
 refine zam hΘ (X:={ y:Nat × List ZC × Nat × Fz // Fz.le F y.2.2.2 ∧ (y.1 ≤ n ∧ y.1 ≤ 6) ∧ RowG MigR y.2.2.2 (zdh zs y.1) y.2.1 }) (fun y=>[(3,.va (gA 5 2 y.1.2.2.1 y.1.2.1)),(4,.va (.int .i64 y.1.1))]) (jr 5 24 [])
  (fun y=>[(0,.frz y.1.2.2.2),(1,.one (.cells 27 (caseS n1 n2 n3 b1 o1 c1 b2 o2 c2 b3 o3 n c3 L.length X.length r0 r1))),(2,gE 32 5 encZ y.1.2.2.1 y.1.2.1)]) 3 (fun y=>6 - y.1.1) ⟨(0,[],0,F),Fz.r F,by omega,rfl,fun i z x h1 _=>nomatch h1⟩
  (fun hH hT=>leI [(2,2)] hH hT rfl ⟨tv,zeb (by omega),zbt zau (by omega) _ _ _ _,tv⟩ ⟨rfl,rfl,tv⟩ ⟨Fz.r F,rfl,rfl,tv⟩) ?_
 rintro ⟨⟨k,o,w,G⟩,A,hk,c⟩ hH hT;replace A:Fz.le F G:=A;replace hk:k ≤ n ∧ k ≤ 6:=hk;replace c:RowG MigR G (zdh zs k) o:=c;by_cases g:k < n
 ·have T:(k:Int) < (n:Nat):=by omega
  by_cases g6:k < 6
  ·have J:(k:Int) < 6:=by omega
   have D:6 - (k + 1) < 6 - k:=by omega
   have E:k < 4611686018427387904:=by omega
   have W:k + 1 ≤ n ∧ k + 1 ≤ 6:=⟨g,g6⟩
   have af:n3 = false:=by cases n3 with | false=>rfl | true=>have:=ae rfl; omega
   have V:=hB k (by omega);have aa:=A _ _ V.1;have ag:(o3 + (k:Int).toNat * 5) * 1 + 0 = o3 + k * 5:=by rw [ql]; omega
   have q:=O G k;have e1:SA.int .i64 (1 + (k:Int)) = SA.int .i64 (IntKind.i64.wrap (1 + (k:Int))):=by rw [zaj (by omega) (by omega)]
   have e2:SA.int .i64 (2 + (k:Int)) = SA.int .i64 (IntKind.i64.wrap (2 + (k:Int))):=by rw [zaj (by omega) (by omega)]
   have hM:∃ M,made9 (1 + k) (2 + k) (zs.getD (k * 5) 0) (zs.getD (k * 5 + 1) 0) (zs.getD (k * 5 + 2) 0) (zs.getD (k * 5 + 3) 0) (zs.getD (k * 5 + 4) 0) = M:=⟨_,rfl⟩
   have Q:∀ z:ZC,∀ f:Fz,Fz.le G f → MigR f z.1 (mig10 zs k) → RowG MigR f (zdh zs (k + 1)) (o ++ [z]):=fun z f a S=>by
    rw [zs4]; exact (RowG.mono (R:=MigR) (fun h l=>MigR.mono h l) c a).snoc S
   have ad:mig10 zs k = made9 (1 + k) (2 + k) (zs.getD (k * 5) 0) (zs.getD (k * 5 + 1) 0) (zs.getD (k * 5 + 2) 0) (zs.getD (k * 5 + 3) 0) (zs.getD (k * 5 + 4) 0):=rfl;obtain ⟨M,hM⟩:=hM;rw [hM] at q;rw [ad,hM] at Q;have p:o.length = k:=c.1.trans (zjm zs k);rcases o with _ | ⟨U,e⟩
   all_goals
    refine ⟨fun _=>?_,fun h=>absurd T (oe h)⟩;refine bri J ⟨af,⟨by omega,T⟩,_,aa,?_⟩;refine V.2 _ _ ag ?_;refine useFo q rfl ⟨e1,e2,rfl,tv⟩ rfl ?_;rintro _ f l2 ⟨sk,rfl,Y⟩;have I:=Y;obtain ⟨kn,kb,ke,kc,kL,kr,rfl,-,-,-,-⟩:=Y;refine ⟨nb rfl,[migS M (.slice kn 0 kb ke 2 M.keep.length kc)],rfl,?_⟩;conv=>whnf
    first
    |refine ⟨rfl,rfl,by show 1 * 56 ≤ 140737488355328; omega,fun c' ab=>?_⟩
    |refine ⟨rfl,rfl,by simp,rfl,by show (e.length + 1 + 1) * 56 ≤ 140737488355328; have h9:e.length + 1 = k:=p; omega,fun c' ab=>?_⟩
    conv=>whnf
    first
    |exact ⟨⟨(k + 1,[] ++ [mkZ5 M (.slice kn 0 kb ke 2 M.keep.length kc) rfl],c',f),Fz.t A l2,W,Q _ f l2 ⟨_,rfl,I⟩⟩,D,leR [(2,4)] hH hT rfl ⟨tv,zeb (by omega),zbt zau (by omega) _ _ _ _,tv⟩ ⟨by (conv=>whnf); exact ⟨rfl,rfl,rfl,.inr ⟨rfl,rfl,rfl,rfl⟩⟩,cnt E,tv⟩ ⟨Fz.r f,rfl,zet (μ:=sig [(2,4)]) zau (fun k=>rfl) (zb9 _ (by rw [qq]; rfl)),tv⟩⟩
    |exact ⟨⟨(k + 1,(U :: e) ++ [mkZ5 M (.slice kn 0 kb ke 2 M.keep.length kc) rfl],c',f),Fz.t A l2,W,Q _ f l2 ⟨_,rfl,I⟩⟩,D,leR [(2,4)] hH hT rfl ⟨tv,zeb (by omega),zbt zau (by omega) _ _ _ _,tv⟩ ⟨zg4 (μ:=sig [(2,4)]) (i:=2) (j:=4) rfl 5 c' _ (U :: e) (mkZ5 M (.slice kn 0 kb ke 2 M.keep.length kc) rfl) rfl,cnt E,tv⟩ ⟨Fz.r f,rfl,zet (μ:=sig [(2,4)]) zau (fun k=>rfl) (zb9 _ (by rw [qq]; rfl)),tv⟩⟩
  ·have J:¬ (k:Int) < 6:=by omega
   have s:min n 6 = k:=by omega
   have d:RowG MigR G (zdh zs (min n 6)) o:=by rw [s]; exact c
   have p:(zdh zs (min n 6)).length = o.length:=d.1.symm;have m:=fun (f:Fz) (a:Fz.le G f) (b:Nat) (hb:f b = some (.arr 32 5 (o.map encZ) w))=>(RowG.mono (R:=MigR) (fun h l=>MigR.mono h l) d a).sl (cap:=w) hb
   rw [p] at m;rcases o with _ | ⟨U,e⟩
   ·have:=c.1; rw [zjm] at this; simp at this; omega
   ·refine ⟨fun _=>?_,fun h=>absurd T (oe h)⟩;refine brj J ?_;refine zbe 2 (fun _=>.arr 32 5 ((U :: e).map encZ) w) rfl rfl rfl (fun _ _=>by exact zea (μ:=resP _) zau (fun k=>rfl) rfl _ _ _) (fun _ _=>zct zau (by omega) _ _ _ _) ?_;intro b' u a K;exact endFo (.ret (.va (.slice false 0 (b' 0) 0 5 (e.length + 1) w))) u rfl (Fz.t A a) (Fz.r u) ⟨_,rfl,m u a _ (K 0 ⟨rfl,rfl⟩)⟩ ⟨rfl,rfl,rfl,.inr ⟨rfl,rfl,rfl,rfl⟩⟩ rfl
 ·have T:¬ (k:Int) < (n:Nat):=by omega
  have s:min n 6 = k:=by omega
  have d:RowG MigR G (zdh zs (min n 6)) o:=by rw [s]; exact c
  have p:(zdh zs (min n 6)).length = o.length:=d.1.symm;have m:=fun (f:Fz) (a:Fz.le G f) (b:Nat) (hb:f b = some (.arr 32 5 (o.map encZ) w))=>(RowG.mono (R:=MigR) (fun h l=>MigR.mono h l) d a).sl (cap:=w) hb
  rw [p] at m;rcases o with _ | ⟨U,e⟩
  ·have ac:ztz G (.slice true 0 0 0 5 0 0) (zdh zs (min n 6)):=by rw [jo p]; exact SlR.nil
   refine ⟨fun h=>absurd (od h) T,fun _=>?_⟩;exact endFo (.ret (.va (.slice true 0 0 0 5 0 0))) G rfl A (Fz.r G) ⟨_,rfl,ac⟩ ⟨rfl,rfl,rfl⟩ rfl
  ·refine ⟨fun h=>absurd (od h) T,fun _=>?_⟩;refine zbe 2 (fun _=>.arr 32 5 ((U :: e).map encZ) w) rfl rfl rfl (fun _ _=>by exact zea (μ:=resP _) zau (fun k=>rfl) rfl _ _ _) (fun _ _=>zct zau (by omega) _ _ _ _) ?_;intro b' u a K;exact endFo (.ret (.va (.slice false 0 (b' 0) 0 5 (e.length + 1) w))) u rfl (Fz.t A a) (Fz.r u) ⟨_,rfl,m u a _ (K 0 ⟨rfl,rfl⟩)⟩ ⟨rfl,rfl,rfl,.inr ⟨rfl,rfl,rfl,rfl⟩⟩ rfl
def DocR (F:Fz) (y:List SA) (d:Dc):Prop:=∃ a b,y = docS a b d.w d.bits ∧ DocAt F a b d
def ValR (F:Fz) (y:List SA) (A:List (List UInt8)):Prop:=∃ a,y = [a] ∧ Sl F 9 1 encS a A
theorem DocR.mono {F d:Fz} {y:List SA} {x:Dc} (h:DocR F y x) (c:Fz.le F d):DocR d y x:=by
 obtain ⟨a,b,h1,e⟩:=h;exact ⟨a,b,h1,e.mono c⟩
theorem ValR.mono {F c:Fz} {y:List SA} {x:List (List UInt8)} (h:ValR F y x) (b:Fz.le F c):ValR c y x:=by
 obtain ⟨a,h1,d⟩:=h;exact ⟨a,h1,d.mono b⟩
abbrev yay (F:Fz) (a:SA) (l:List Dc):Prop:=SlR F 41 4 (DocR F) a l
abbrev yaz (F:Fz) (a:SA) (l:List (List (List UInt8))):Prop:=SlR F 34 1 (ValR F) a l
def mkR (l:List SA) (h:l.all SA.z = true):ZC:=⟨l,fun x a=>qn.1 h x a⟩
theorem z4r {zs:List Int} (a:∀ i,i64 (zs.getD i 0)) {k:Nat} (b:k < 6):migOk (mig10 zs k) = true ∧ short (mig10 zs k).keep ∧ (mig10 zs k).keep.length < 1000000:=
 zz2 (by simp [idOk]; omega) (by simp [idOk]; omega) ⟨a _,a _,a _,a _,a _⟩
structure ChI (F:Fz) (n k:Nat) (D:List Dc) (C:List Crt) (od ov oc:List ZC) (cc:Nat) (G:Fz):Prop where
 cap:oc.length ≤ cc
 le:Fz.le F G
 kn:k ≤ n
 dl:D.length = k + 1
 cl:C.length = k
 d:RowG DocR G D od
 v:RowG ValR G (D.map allB) ov
 c:RowG CrtR G C oc
 ch:Chn (D.map allB) C
 ok:∀ d ∈ D,docOk d = true
abbrev ChX:=Nat × (List Dc × List Crt) × (List ZC × Nat) × (List ZC × Nat) × (List ZC × Nat) × Fz
def zty (o:Out) (a:Fz):Prop:=∃ e sv c D C g h f,o = .ret (.tup [.va e,.va sv,.va c,.va (.bool true)]) ∧ yay a e D ∧ yaz a sv (D.map allB) ∧ zgs a c C ∧ Chn (D.map allB) C ∧ (∀ d ∈ D,docOk d = true) ∧ C.length ≤ 6 ∧
 (∃ b,e = .slice false 0 b 0 4 D.length g) ∧ (∃ b,sv = .slice false 0 b 0 1 D.length h) ∧ (∃ i b,c = .slice i 0 b 0 4 C.length f) ∧ C.length ≤ f
theorem ChI.fin {F:Fz} {n k:Nat} {D:List Dc} {C:List Crt} {od m j:List ZC} {e:Nat} {G:Fz} (h:ChI F n k D C od m j e G) (K:n ≤ 6) {b:Fz} (a:Fz.le G b) {zd zv f g:Nat}
  (I:b zd = some (.arr 41 4 (od.map encZ) f)) (J:b zv = some (.arr 34 1 (m.map encZ) g)) {w:SA} (u:(j = [] ∧ w = .slice true 0 0 0 4 0 0) ∨ ∃ zc,b zc = some (.arr 48 4 (j.map encZ) e) ∧ w = .slice false 0 zc 0 4 j.length e) :
  zty (.ret (.tup [.va (.slice false 0 zd 0 4 od.length f),.va (.slice false 0 zv 0 1 m.length g),.va w,.va (.bool true)])) b:=by
 have q:od.length = D.length:=h.d.1;have s:m.length = D.length:=by rw [h.v.1,qa]
 have i:j.length = C.length:=h.c.1;have o:=(RowG.mono (R:=DocR) (fun h l=>DocR.mono h l) h.d a).sl (cap:=f) I;have p:=(RowG.mono (R:=ValR) (fun h l=>ValR.mono h l) h.v a).sl (cap:=g) J;rw [qa,← s] at p;rw [← q] at o;have y:C.length ≤ 6:=by have:=h.cl; have:=h.kn; omega
 rcases u with ⟨A,rfl⟩ | ⟨zc,E,rfl⟩
 ·have B:C = []:=by rw [A] at i; exact jo i.symm
  subst B;exact ⟨_,_,_,D,[],f,g,0,rfl,o,p,SlR.nil,h.ch,h.ok,y,⟨zd,by rw [q]⟩,⟨zv,by rw [s]⟩,⟨true,0,rfl⟩,qi 0⟩
 ·have x:=(RowG.mono (R:=CrtR) (fun h l=>CrtR.mono h l) h.c a).sl (cap:=e) E;rw [← i] at x;exact ⟨_,_,_,D,C,f,g,e,rfl,o,p,x,h.ch,h.ok,y,⟨zd,by rw [q]⟩,⟨zv,by rw [s]⟩,⟨false,zc,by rw [i]⟩,i ▸ h.cap⟩
theorem ChI.snoc {F:Fz} {n k:Nat} {D:List Dc} {C:List Crt} {od j g:List ZC} {m:Nat} {G:Fz} (h:ChI F n k D C od j g m G) (u:k + 1 ≤ n) {b:Fz} (a:Fz.le G b) {M:Mig} {d e:Dc} (q:D[k]? = some d) (i:docOk e = true) (s:zb1 (makeC M d e) (allB d) (allB e) = true) (w:short M.keep)
  {zd zv zc:ZC} (h1:DocR b zd.1 e) (o:ValR b zv.1 (allB e)) (p:CrtR b zc.1 (makeC M d e)) {c':Nat} (f:g.length + 1 ≤ c'):ChI F n (k + 1) (D ++ [e]) (C ++ [makeC M d e]) (od ++ [zd]) (j ++ [zv]) (g ++ [zc]) c' b:=by
 refine ⟨by rw [qb]; exact f,Fz.t h.le a,u,by rw [qb,h.dl]; rfl,by rw [qb,h.cl]; rfl,(RowG.mono (R:=DocR) (fun h l=>DocR.mono h l) h.d a).snoc h1,?_,(RowG.mono (R:=CrtR) (fun h l=>CrtR.mono h l) h.c a).snoc p,?_,fun x hx=>?_⟩
 ·rw [qq]; exact (RowG.mono (R:=ValR) (fun h l=>ValR.mono h l) h.v a).snoc o
 ·rw [qq];refine h.ch.snoc ?_ rfl (zew w) (zpv i);rw [h.cl,qu,q];exact s
 ·rcases yj.1 hx with hx | hx
  ·exact h.ok x hx
  ·rw [qs] at hx; subst hx; exact i
theorem RowG.one {α:Type} {R:Fz → List SA → α → Prop} {G:Fz} {x:α} {z:ZC} (h:R G z.1 x):RowG R G [x] [z]:=⟨rfl,fun i c b h1 a=>by
 rcases i with _ | i
 ·cases h1; cases a; exact h
 ·simp at h1⟩
theorem ChI.new {F:Fz} {n:Nat} {d:Dc} (a:docOk d = true) {zd zv:ZC} (h1:DocR F zd.1 d) (c:ValR F zv.1 (allB d)):ChI F n 0 [d] [] [zd] [zv] [] 0 F:=
 ⟨qi 0,Fz.r F,yd n,rfl,rfl,RowG.one h1,RowG.one c,⟨rfl,fun i z x h _=>nomatch h⟩,Chn.new (zpv a),fun x b=>by rw [qs] at b; subst b; exact a⟩
theorem sz_le {n k w:Nat} (h:n + 1 = k + 1) (b:k ≤ 6) (a:w ≤ 100):(n + 1 + 1) * w ≤ 140737488355328:=
 jk (qay (show n + 1 + 1 ≤ 8 by omega) a) (by decide)
theorem yct {α:Type} {c:α} {r:List α} {k w:Nat} (h:(c :: r).length = k) (b:k ≤ 6) (a:w ≤ 100):(r.length + 1 + 1) * w ≤ 140737488355328:=
 jk (qay (show r.length + 1 + 1 ≤ 8 by rw [qe] at h; omega) a) (by decide)
theorem zws (F:Fz) (m0:MLF F) (r0:RNDF F) (n1 n2 n3:Bool) (b1 o1 c1 b2 o2 c2 b3 o3 l3 c3 l x:Nat) (q1 q2:Int) (d:Dc) (hd:docOk d = true) (zs:List Int) (hz:∀ i,i64 (zs.getD i 0)) (n:Nat) (q:n ≤ 6)
  (aa:∀ F1,Fz.le F F1 → Fo Tryz.prog F1 15 [.agg (caseS n1 n2 n3 b1 o1 c1 b2 o2 c2 b3 o3 l3 c3 l x q1 q2)] (fun o F'=>∃ a b,o = .ret (.agg (docS a b d.w d.bits)) ∧ DocAt F' a b d))
  (aq:∀ F1,Fz.le F F1 → Fo Tryz.prog F1 32 [.agg (caseS n1 n2 n3 b1 o1 c1 b2 o2 c2 b3 o3 l3 c3 l x q1 q2)] (fun o F'=>∃ sm,o = .ret (.va sm) ∧ ztz F' sm (zdh zs n))) :
  Fo Tryz.prog F 23 [.agg (caseS n1 n2 n3 b1 o1 c1 b2 o2 c2 b3 o3 l3 c3 l x q1 q2)] zty:=by
 have bh:=fun F a b=>zt2 hd F a b
 refine fo_of hΘ Tryz.func23 rfl (by decide) _ _ rfl rfl rfl ?_;refine useFo (aa F (Fz.r F)) rfl (zaa _) rfl ?_;rintro _ F1 u1 ⟨a,b,rfl,hD⟩;have av:=hD;obtain ⟨an,ab,ae,ac,bn,bb,be,bc,rfl,rfl,-,-,-⟩:=hD;refine ⟨rfl,⟨by simp,by simp⟩,_,rfl,?_⟩;refine useFo (bh F1 _ _ av) rfl (zaa _) rfl ?_;rintro _ F2 u2 ⟨vb,vc,rfl,hV⟩;refine useFo (aq F2 (Fz.t u1 u2)) rfl (zaa _) rfl ?_;rintro _ F3 u3 ⟨sm,rfl,hm⟩;have bi:=hm;obtain ⟨mn,mb,me,mc,mL,mr,rfl,m1,m2,m3,m4⟩:=hm
 conv=>whnf
 have bj:ztz F3 (.slice mn 0 mb me 5 (zdh zs n).length mc) (zdh zs n):=bi;have z0:=zjm zs n;rw [z0] at bj
 refine zam hΘ (X:={ y:ChX // ChI F3 n y.1 y.2.1.1 y.2.1.2 y.2.2.1.1 y.2.2.2.1.1 y.2.2.2.2.1.1 y.2.2.2.2.1.2 y.2.2.2.2.2 }) (fun y=>[(6,.va (gA 4 4 y.1.2.2.1.2 y.1.2.2.1.1)),(9,.va (gA 1 5 y.1.2.2.2.1.2 y.1.2.2.2.1.1)),(10,.va (gA 4 6 y.1.2.2.2.2.1.2 y.1.2.2.2.2.1.1)),(12,.va (.int .i64 y.1.1))]) (2::3::4::5::jr 13 6 (jr 33 66 []))
  (fun y=>[(0,.frz y.1.2.2.2.2.2),(1,.one (.cells 27 (caseS n1 n2 n3 b1 o1 c1 b2 o2 c2 b3 o3 l3 c3 l x q1 q2))),(2,.gone),(3,.gone),(4,gE 41 4 encZ y.1.2.2.1.2 y.1.2.2.1.1),(5,gE 34 1 encZ y.1.2.2.2.1.2 y.1.2.2.2.1.1),(6,gE 48 4 encZ y.1.2.2.2.2.1.2 y.1.2.2.2.2.1.1)]) 7 (fun y=>n - y.1.1)
  ⟨(0,([d],[]),([mkR (docS (.slice an 0 ab ae 2 d.lines.length ac) (.slice bn 0 bb be 6 d.cells.length bc) d.w d.bits) rfl],1),([mkR [.slice false 0 vb 0 1 8 vc] rfl],1),([],0),F3),ChI.new hd ⟨_,_,rfl,(av.mono u2).mono u3⟩ ⟨_,rfl,hV.mono u3⟩⟩
  (fun hH hT=>leI [(4,2),(5,3),(6,6)] hH hT rfl ⟨tv,zeb (by omega),tv,tv,zbt zau (by omega) _ _ _ _,zbt zau (by omega) _ _ _ _,zbt zau (by omega) _ _ _ _,tv⟩ ⟨⟨rfl,rfl,rfl,.inr ⟨rfl,rfl,rfl,rfl⟩⟩,⟨rfl,rfl,rfl,.inr ⟨rfl,rfl,rfl,rfl⟩⟩,rfl,rfl,tv⟩ ⟨Fz.r F3,rfl,rfl,rfl,rfl,tv⟩) ?_
 rintro ⟨⟨k,⟨D,C⟩,⟨od,cd⟩,⟨ov,cv⟩,⟨oc,cc⟩,G⟩,p⟩ hH hT;replace p:ChI F3 n k D C od ov oc cc G:=p;have hG:=p.le;have ao:=p.kn;by_cases g:k < n
 ·have gi:(k:Int) < ((zdh zs n).length:Nat):=by rw [z0]; omega
  have af:n - (k + 1) < n - k:=by omega
  have ag:k < 4611686018427387904:=by omega
  have z3:Fz.le F F3:=Fz.t u1 (Fz.t u2 u3);have mG:=m0.mono (Fz.t z3 hG);have rG:=r0.mono (Fz.t z3 hG);have m:=z4r hz (y5 g q);have am:(zdh zs n)[k]? = some (mig10 zs k):=by unfold zdh; simp [g]
  have R:∃ e,D[k]? = some e ∧ docOk e = true:=by
   have hl:k < D.length:=by rw [p.dl]; omega
   exact ⟨D[k],qc hl,p.ok _ (qy hl)⟩
  obtain ⟨e,R,al⟩:=R
  have ad:∃ z,od[k]? = some z:=by
   have hl:k < od.length:=by rw [p.d.1,p.dl]; omega
   exact ⟨od[k],qc hl⟩
  obtain ⟨z,ad⟩:=ad;have bm:=p.d.2 k z e ad R;obtain ⟨da,db,bo,ak⟩:=bm;have bk:=m4 k _ am;obtain ⟨my,bl,a4,rfl,ap⟩:=bk;have S:=KpsAt.up ap hG;have ai:=yaf m.1 m.2.1 m.2.2 al G mG a4 da db S ak;have ar:mn = false:=by cases mn with | false=>rfl | true=>have:=m1 rfl; rw [this] at am; simp at am
  have az:=hG _ _ (m2 ar);have ah:(od.map encZ)[0 + (k:Int).toNat]? = some (docS da db e.w e.bits):=by rw [qv,ql,qu,ad]; exact congrArg some bo
  have T:mL[me + (k:Int).toNat]? = some (migS (mig10 zs k) a4):=by rw [ql]; exact bl
  have s:od.length = k + 1:=by rw [p.d.1,p.dl]
  have I:ov.length = k + 1:=by rw [p.v.1,qa,p.dl]
  have a2:oc.length = k:=by rw [p.c.1,p.cl]
  have hM:∃ M,mig10 zs k = M:=⟨_,rfl⟩
  obtain ⟨M,hM⟩:=hM;rw [hM] at m ap S ai T;rcases od with _ | ⟨d0,E⟩
  ·simp at s
  rcases ov with _ | ⟨v0,L⟩
  ·simp at I
  have ay:=ak;obtain ⟨a8,a5,a7,a6,bf,a9,bd,ba,rfl,rfl,-,-,-⟩:=ak;obtain ⟨kn,kb,ke,kc,kL,kr,rfl,-,-,-,-⟩:=ap;have gd:(k:Int) < ((E.length + 1:Nat):Int):=by have h9:E.length + 1 = k + 1:=s; omega
  have a1:=fun f (J:runD M.keep e = some f) (U:Fz) (l2:Fz.le G U) a b hE=>z4p m.1 m.2.1 m.2.2 al U (mG.mono l2) (rG.mono l2) (.slice kn 0 kb ke 2 M.keep.length kc) (.slice a8 0 a5 a7 2 e.lines.length a6) (.slice bf 0 a9 bd 6 e.cells.length ba) a b J (KpsAt.up S l2) (ay.mono l2) hE
  have a3:=fun f (J:runD M.keep e = some f)=>yag m.1 m.2.1 m.2.2 al J
  have bp:(E.length + 1 + 1) * 72 ≤ 140737488355328:=sz_le s (jk ao q) (by decide);have bq:(L.length + 1 + 1) * 24 ≤ 140737488355328:=sz_le I (jk ao q) (by decide);rcases oc with _ | ⟨Q,cr⟩
  all_goals
   refine ⟨fun _=>?_,fun h=>absurd gi (oe h)⟩;refine bre (by decide) ?_;refine drawP hΘ mixed (lk [0,1,2,3,4,5,6,7] (.alt 8 (lk [9,10,11] (.alt 12 (.alt 13 (.look 14 .done) .nil) .nil)) (.alt 12 (.alt 8 (lk [9,10,11] (.alt 13 (.look 14 .done) .nil)) .nil) .nil))) [4] (by kernel_rfl) ⟨ar,⟨by omega,gi⟩,rfl,_,az,_,T,rfl,⟨by omega,gd⟩,rfl,rfl,_,ah,?_,?_⟩
   all_goals
    conv=>whnf
    try (refine ⟨Fz.r G,rfl,?_⟩)
    (conv=>whnf)
    refine useFo ai rfl (zaa _) rfl ?_;rintro _ G1 O (rfl | ⟨f,bs,bt,J,rfl,hE⟩)
    ·refine ⟨O,rfl,?_⟩
     repeat' ((conv=>whnf); first
      |refine ⟨rfl,?_⟩
      |refine ⟨O,rfl,?_⟩
      |refine ⟨Fz.r _,rfl,?_⟩
      |fail)
     refine bre (by decide) ?_;refine zbe 4 (fun _=>.arr 41 4 ((d0 :: E).map encZ) cd) rfl rfl rfl (fun _ _=>by exact zea (μ:=resP _) zau (fun k=>rfl) rfl _ _ _) (fun _ _=>zct zau (by omega) _ _ _ _) ?_;intro x4 G4 w4 h4;refine zbe 5 (fun _=>.arr 34 1 ((v0 :: L).map encZ) cv) rfl rfl rfl (fun _ _=>by exact zea (μ:=resP _) zau (fun k=>rfl) rfl _ _ _) (fun _ _=>zct zau (by omega) _ _ _ _) ?_;intro x5 G5 K h5
     first
     |exact endFo (.ret (.tup [.va (.slice false 0 (x4 0) 0 4 (E.length + 1) cd),.va (.slice false 0 (x5 0) 0 1 (L.length + 1) cv),.va (.slice true 0 0 0 4 0 0),.va (.bool true)])) G5 rfl (Fz.t z3 (Fz.t hG (Fz.t O (Fz.t w4 K)))) (Fz.r G5) (p.fin q (Fz.t O (Fz.t w4 K)) (K _ _ (h4 0 ⟨rfl,rfl⟩)) (h5 0 ⟨rfl,rfl⟩) (.inl ⟨rfl,rfl⟩)) ⟨⟨rfl,rfl,rfl,.inr ⟨rfl,rfl,rfl,rfl⟩⟩,⟨rfl,rfl,rfl,.inr ⟨rfl,rfl,rfl,rfl⟩⟩,⟨rfl,rfl,rfl⟩,rfl,tv⟩ rfl
     |refine zbe 6 (fun _=>.arr 48 4 ((Q :: cr).map encZ) cc) rfl rfl rfl (fun _ _=>by exact zea (μ:=resP _) zau (fun k=>rfl) rfl _ _ _) (fun _ _=>zct zau (by omega) _ _ _ _) ?_
      intro x6 G6 w6 h6;exact endFo (.ret (.tup [.va (.slice false 0 (x4 0) 0 4 (E.length + 1) cd),.va (.slice false 0 (x5 0) 0 1 (L.length + 1) cv),.va (.slice false 0 (x6 0) 0 4 (cr.length + 1) cc),.va (.bool true)])) G6 rfl (Fz.t z3 (Fz.t hG (Fz.t O (Fz.t w4 (Fz.t K w6))))) (Fz.r G6) (p.fin q (Fz.t O (Fz.t w4 (Fz.t K w6))) (w6 _ _ (K _ _ (h4 0 ⟨rfl,rfl⟩))) (w6 _ _ (h5 0 ⟨rfl,rfl⟩)) (.inr ⟨_,h6 0 ⟨rfl,rfl⟩,rfl⟩)) ⟨⟨rfl,rfl,rfl,.inr ⟨rfl,rfl,rfl,rfl⟩⟩,⟨rfl,rfl,rfl,.inr ⟨rfl,rfl,rfl,rfl⟩⟩,⟨rfl,rfl,rfl,.inr ⟨rfl,rfl,rfl,rfl⟩⟩,rfl,tv⟩ rfl
    ·have Z:=hE;obtain ⟨tn,tb,te,tc,yn,yb,ye,yc,rfl,rfl,-,-,-⟩:=hE;have a0:=fun U (l2:Fz.le G U) bg=>a1 f J U l2 (.slice tn 0 tb te 2 f.lines.length tc) (.slice yn 0 yb ye 6 f.cells.length yc) bg
     have u:=a3 f J;have ax:=fun U a b=>zt2 u.1 U a b
     refine ⟨O,rfl,?_⟩
     repeat' ((conv=>whnf); first
      |refine ⟨rfl,?_⟩
      |refine ⟨O,rfl,?_⟩
      |refine ⟨Fz.r _,rfl,?_⟩
      |fail)
     refine brd (by decide) ?_;refine drawP hΘ mixed (lk [0,1,2,3,4,5,6,7,8] (.alt 9 (lk [10,11,12] (.alt 13 (.alt 14 (.look 15 .done) .nil) .nil)) (.alt 13 (.alt 9 (lk [10,11,12] (.alt 14 (.look 15 .done) .nil)) .nil) .nil))) [4,7] (by kernel_rfl) ⟨ar,⟨by omega,gi⟩,rfl,_,O _ _ az,_,T,rfl,⟨by omega,gd⟩,rfl,rfl,_,ah,rfl,?_,?_⟩
     all_goals
      conv=>whnf
      try (refine ⟨Fz.r G1,rfl,rfl,?_⟩)
      (conv=>whnf)
      refine useFo (a0 G1 O Z) rfl (zaa _) rfl ?_;rintro _ U w2 ⟨sc,rfl,hC⟩;have au:=hC;obtain ⟨fn,fb,fe,fc,fL,fr,rfl,-,-,-,-⟩:=hC;refine ⟨w2,rfl,rfl,?_⟩
      repeat' ((conv=>whnf); first
       |refine ⟨rfl,?_⟩
       |refine ⟨w2,rfl,rfl,?_⟩
       |refine ⟨Fz.r _,rfl,rfl,?_⟩
       |fail)
      refine useFo (ax U _ _ (Z.mono w2)) rfl (zaa _) rfl ?_;rintro _ G3 w3 ⟨A,B,rfl,aw⟩;conv=>whnf
      repeat
       refine gae (by decide) ?_;conv=>whnf
      refine brd (by decide) ⟨nb rfl,[docS (.slice tn 0 tb te 2 f.lines.length tc) (.slice yn 0 yb ye 6 f.cells.length yc) f.w f.bits],rfl,rfl,rfl,by simp,rfl,bp,fun W bu=>?_⟩;refine ⟨nb rfl,[[.slice false 0 A 0 1 8 B]],rfl,rfl,rfl,by simp,rfl,bq,fun Y bw=>?_⟩;refine ⟨nb rfl,[crtS (makeC M e f) (.slice fn 0 fb fe 2 (zbi M.keep).length fc)],rfl,?_⟩;conv=>whnf
      first
      |refine ⟨rfl,rfl,nb rfl,fun V aj=>?_⟩
      |refine ⟨rfl,rfl,by simp,rfl,yct a2 (jk ao q) (by decide),fun V aj=>?_⟩
      conv=>whnf
      first
      |exact ⟨⟨(k + 1,(D ++ [f],C ++ [makeC M e f]),((d0 :: E) ++ [(mkR (docS (.slice tn 0 tb te 2 f.lines.length tc) (.slice yn 0 yb ye 6 f.cells.length yc) f.w f.bits) rfl)],W),((v0 :: L) ++ [(mkR [.slice false 0 A 0 1 8 B] rfl)],Y),([] ++ [(mkR (crtS (makeC M e f) (.slice fn 0 fb fe 2 (zbi M.keep).length fc)) rfl)],V),G3),p.snoc (zd:=(mkR (docS (.slice tn 0 tb te 2 f.lines.length tc) (.slice yn 0 yb ye 6 f.cells.length yc) f.w f.bits) rfl)) (zv:=(mkR [.slice false 0 A 0 1 8 B] rfl)) (zc:=(mkR (crtS (makeC M e f) (.slice fn 0 fb fe 2 (zbi M.keep).length fc)) rfl)) g (Fz.t O (Fz.t w2 w3)) R u.1 u.2 m.2.1 ⟨_,_,rfl,(Z.mono w2).mono w3⟩ ⟨_,rfl,aw⟩ ⟨_,rfl,KpsAt.up au w3⟩ (by simpa using aj)⟩,af,leR [(4,10),(5,12),(6,14)] hH hT rfl ⟨tv,zeb (by omega),tv,tv,zbt zau (by omega) _ _ _ _,zbt zau (by omega) _ _ _ _,zbt zau (by omega) _ _ _ _,tv⟩ ⟨zg4 (μ:=sig [(4,10),(5,12),(6,14)]) (i:=4) (j:=10) rfl 4 W _ (d0 :: E) (mkR (docS (.slice tn 0 tb te 2 f.lines.length tc) (.slice yn 0 yb ye 6 f.cells.length yc) f.w f.bits) rfl) rfl,zg4 (μ:=sig [(4,10),(5,12),(6,14)]) (i:=5) (j:=12) rfl 1 Y _ (v0 :: L) (mkR [.slice false 0 A 0 1 8 B] rfl) rfl,by (conv=>whnf); exact ⟨rfl,rfl,rfl,.inr ⟨rfl,rfl,rfl,rfl⟩⟩,cnt ag,tv⟩ ⟨Fz.r G3,rfl,zet (μ:=sig [(4,10),(5,12),(6,14)]) zau (fun k=>rfl) (zb9 _ (by rw [qq]; rfl)),zet (μ:=sig [(4,10),(5,12),(6,14)]) zau (fun k=>rfl) (zb9 _ (by rw [qq]; rfl)),zet (μ:=sig [(4,10),(5,12),(6,14)]) zau (fun k=>rfl) (zb9 _ (by rw [qq]; rfl)),tv⟩⟩
      |exact ⟨⟨(k + 1,(D ++ [f],C ++ [makeC M e f]),((d0 :: E) ++ [(mkR (docS (.slice tn 0 tb te 2 f.lines.length tc) (.slice yn 0 yb ye 6 f.cells.length yc) f.w f.bits) rfl)],W),((v0 :: L) ++ [(mkR [.slice false 0 A 0 1 8 B] rfl)],Y),((Q :: cr) ++ [(mkR (crtS (makeC M e f) (.slice fn 0 fb fe 2 (zbi M.keep).length fc)) rfl)],V),G3),p.snoc (zd:=(mkR (docS (.slice tn 0 tb te 2 f.lines.length tc) (.slice yn 0 yb ye 6 f.cells.length yc) f.w f.bits) rfl)) (zv:=(mkR [.slice false 0 A 0 1 8 B] rfl)) (zc:=(mkR (crtS (makeC M e f) (.slice fn 0 fb fe 2 (zbi M.keep).length fc)) rfl)) g (Fz.t O (Fz.t w2 w3)) R u.1 u.2 m.2.1 ⟨_,_,rfl,(Z.mono w2).mono w3⟩ ⟨_,rfl,aw⟩ ⟨_,rfl,KpsAt.up au w3⟩ (by simpa using aj)⟩,af,leR [(4,10),(5,12),(6,14)] hH hT rfl ⟨tv,zeb (by omega),tv,tv,zbt zau (by omega) _ _ _ _,zbt zau (by omega) _ _ _ _,zbt zau (by omega) _ _ _ _,tv⟩ ⟨zg4 (μ:=sig [(4,10),(5,12),(6,14)]) (i:=4) (j:=10) rfl 4 W _ (d0 :: E) (mkR (docS (.slice tn 0 tb te 2 f.lines.length tc) (.slice yn 0 yb ye 6 f.cells.length yc) f.w f.bits) rfl) rfl,zg4 (μ:=sig [(4,10),(5,12),(6,14)]) (i:=5) (j:=12) rfl 1 Y _ (v0 :: L) (mkR [.slice false 0 A 0 1 8 B] rfl) rfl,zg4 (μ:=sig [(4,10),(5,12),(6,14)]) (i:=6) (j:=14) rfl 4 V _ (Q :: cr) (mkR (crtS (makeC M e f) (.slice fn 0 fb fe 2 (zbi M.keep).length fc)) rfl) rfl,cnt ag,tv⟩ ⟨Fz.r G3,rfl,zet (μ:=sig [(4,10),(5,12),(6,14)]) zau (fun k=>rfl) (zb9 _ (by rw [qq]; rfl)),zet (μ:=sig [(4,10),(5,12),(6,14)]) zau (fun k=>rfl) (zb9 _ (by rw [qq]; rfl)),zet (μ:=sig [(4,10),(5,12),(6,14)]) zau (fun k=>rfl) (zb9 _ (by rw [qq]; rfl)),tv⟩⟩
 ·have gi:¬ (k:Int) < ((zdh zs n).length:Nat):=by rw [z0]; omega
  have z3:Fz.le F F3:=Fz.t u1 (Fz.t u2 u3);have s:od.length = k + 1:=by rw [p.d.1,p.dl]
  have I:ov.length = k + 1:=by rw [p.v.1,qa,p.dl]
  rcases od with _ | ⟨d0,E⟩
  ·simp at s
  rcases ov with _ | ⟨v0,L⟩
  ·simp at I
  rcases oc with _ | ⟨Q,cr⟩
  all_goals
   refine ⟨fun h=>absurd (od h) gi,fun _=>?_⟩;conv=>whnf
   repeat
    refine gae (by decide) ?_;conv=>whnf
   refine zbe 4 (fun _=>.arr 41 4 ((d0 :: E).map encZ) cd) rfl rfl rfl (fun _ _=>by exact zea (μ:=resP _) zau (fun k=>rfl) rfl _ _ _) (fun _ _=>zct zau (by omega) _ _ _ _) ?_;intro x4 G4 w4 h4;refine zbe 5 (fun _=>.arr 34 1 ((v0 :: L).map encZ) cv) rfl rfl rfl (fun _ _=>by exact zea (μ:=resP _) zau (fun k=>rfl) rfl _ _ _) (fun _ _=>zct zau (by omega) _ _ _ _) ?_;intro x5 G5 K h5
   first
   |exact endFo (.ret (.tup [.va (.slice false 0 (x4 0) 0 4 (E.length + 1) cd),.va (.slice false 0 (x5 0) 0 1 (L.length + 1) cv),.va (.slice true 0 0 0 4 0 0),.va (.bool true)])) G5 rfl (Fz.t z3 (Fz.t hG (Fz.t w4 K))) (Fz.r G5) (p.fin q (Fz.t w4 K) (K _ _ (h4 0 ⟨rfl,rfl⟩)) (h5 0 ⟨rfl,rfl⟩) (.inl ⟨rfl,rfl⟩)) ⟨⟨rfl,rfl,rfl,.inr ⟨rfl,rfl,rfl,rfl⟩⟩,⟨rfl,rfl,rfl,.inr ⟨rfl,rfl,rfl,rfl⟩⟩,⟨rfl,rfl,rfl⟩,rfl,tv⟩ rfl
   |refine zbe 6 (fun _=>.arr 48 4 ((Q :: cr).map encZ) cc) rfl rfl rfl (fun _ _=>by exact zea (μ:=resP _) zau (fun k=>rfl) rfl _ _ _) (fun _ _=>zct zau (by omega) _ _ _ _) ?_
    intro x6 G6 w6 h6;exact endFo (.ret (.tup [.va (.slice false 0 (x4 0) 0 4 (E.length + 1) cd),.va (.slice false 0 (x5 0) 0 1 (L.length + 1) cv),.va (.slice false 0 (x6 0) 0 4 (cr.length + 1) cc),.va (.bool true)])) G6 rfl (Fz.t z3 (Fz.t hG (Fz.t w4 (Fz.t K w6)))) (Fz.r G6) (p.fin q (Fz.t w4 (Fz.t K w6)) (w6 _ _ (K _ _ (h4 0 ⟨rfl,rfl⟩))) (w6 _ _ (h5 0 ⟨rfl,rfl⟩)) (.inr ⟨_,h6 0 ⟨rfl,rfl⟩,rfl⟩)) ⟨⟨rfl,rfl,rfl,.inr ⟨rfl,rfl,rfl,rfl⟩⟩,⟨rfl,rfl,rfl,.inr ⟨rfl,rfl,rfl,rfl⟩⟩,⟨rfl,rfl,rfl,.inr ⟨rfl,rfl,rfl,rfl⟩⟩,rfl,tv⟩ rfl
theorem z2z (F:Fz) (u:MLF F) (w:RNDF F) (j k l:Bool) (d m p e n c2 f o a q:Nat) (L:List Stp) (X:List Q3) (b c:Int) (zs:List Int) (h:CaseAt F j k l d m e n f o a L X b c zs) :
  Fo Tryz.prog F 23 [.agg (caseS j k l d m p e n c2 f o a q L.length X.length b c)] zty:=
 zws F u w j k l d m p e n c2 f o a q L.length X.length b c (madeD L X b c) h.ok.1 zs (fun i=>by
   rw [ym];by_cases g:i < zs.length
   ·rw [qc g]; exact h.i3 _ (qy g)
   ·rw [qas (by omega)]; show i64 0; unfold i64; omega) (min a 6) (Nat.min_le_right a 6)
  (fun F1 s=>z3t F1 j k l d m p e n c2 f o a q L X b c zs (h.mono s))
  fun F1 s=>zos F1 j k l d m p e n c2 f o a q L X b c zs (h.mono s)
theorem zrd (c n:Int) (a:i64 c) (b:0 < n):Pu Tryz.prog 20 [.va (.int .i64 c),.va (.int .i64 n)] (.va (.int .i64 (pickI c n))):=by
 intro F;unfold i64 at a;refine fo_of hΘ Tryz.func20 rfl (by decide) _ _ rfl rfl rfl ?_;refine br (fun g=>?_) (fun g=>?_)
 ·refine ⟨by omega,?_⟩;refine endPu rfl (Fz.r F) (oi ?_) rfl;simp at g;rw [zaj (n:=c + 1) (by omega) (by omega),zaj (n:=0 - (c + 1)) (by omega) (by omega),pickI,if_pos g]
  congr 1; omega
 ·refine ⟨by omega,?_⟩;refine endPu rfl (Fz.r F) (oi ?_) rfl;simp at g;rw [pickI,if_neg (by omega)]
theorem zke {F:Fz} {f:Bool} {g i d:Nat} {l:List Crt} (n:zgs F (.slice f 0 g i 4 l.length d) l) (a:l.length ≤ d) (p:∀ c ∈ l,short c.cl) (e:∀ c ∈ l,c.cl.length < 1000000) (b:l.length < 1000000) {c:Crt} (k:zaz l = some c) :
  Fo Tryz.prog F 30 [.va (.slice f 0 g i 4 l.length d)] (fun o j=>∃ sk,o = .ret (.tup [.agg (crtS c sk),.va (.int .i64 0)]) ∧ ClsAt j sk c.cl):=
 zce (ze0 F f g i d l n a p e b) fun o j h=>by
  rcases h with ⟨h,_⟩ | ⟨c2,h,m⟩
  ·exact absurd (h.symm.trans k) (by simp)
  ·cases h.symm.trans k; exact m
theorem zym {F:Fz} {d:Bool} {b c:Nat} {C:List Crt} (h:zgs F (.slice d 0 b 0 4 C.length c) C) {k:Nat} (m:k ≤ C.length):zgs F (.slice d 0 b 0 4 (C.take k).length c) (C.take k):=by
 obtain ⟨n,j,e',c',L,r,e,h1,f,l,g⟩:=h;cases e
 refine ⟨d,b,0,c,L,r,rfl,fun h=>by rw [h1 h,List.take_nil],f,by rw [qk]; omega,fun i x a=>?_⟩;refine g i x ?_;rw [qa5] at a;split at a
 ·exact a
 ·cases a
theorem zyl {F:Fz} {a:Bool} {b f:Nat} {C:List Crt} (h:zgs F (.slice a 0 b 0 4 C.length f) C) {k c2:Nat} (o:k ≤ C.length):zgs F (.slice a 0 b k 4 (C.drop k).length c2) (C.drop k):=by
 obtain ⟨p,m,e',c',L,r,e,h1,g,n,j⟩:=h;cases e
 refine ⟨a,b,k,c2,L,r,rfl,fun h=>by rw [h1 h]; simp,g,by rw [yi]; omega,fun i x d=>?_⟩;rw [yw] at d;obtain ⟨y,c,l⟩:=j (k + i) x d;exact ⟨y,by rw [qv] at c; exact c,l⟩
theorem zwh {F:Fz} {b:Nat} {a c2:Crt} {c d:SA} (h1:ClsAt F c a.cl) (e:ClsAt F d c2.cl) (f:F b = some (.arr 48 4 [crtS a c,crtS c2 d] 2)):zgs F (.slice false 0 b 0 4 2 2) [a,c2]:=crts2 h1 e f
structure CrtSm (c:Crt):Prop where
 s:short c.cl
 l:c.cl.length < 1000000
theorem CrtSm.ok {c:Crt} (h:crtOk c = true) (a:short c.cl):CrtSm c:=⟨a,by rw [(zd1.1 h).n]; decide⟩
theorem zk9:∀ (r:List Crt) (a c:Crt),CrtSm a → (∀ x ∈ r,CrtSm x) → foldS a r = some c → crtOk a = true → short c.cl
 |[],a,c,ha,_,h,_=>by cases h; exact ha.s
 |b :: r,a,c,ha,hr,h,hok=>by
  rw [foldS] at h;split at h
  ·rename_i j;have g:=(zeh.1 j)
   have d:=zsz hok g.2.1 g.2.2
   have e:CrtSm (joinC a b):=by
    refine CrtSm.ok d fun x f=>?_
    obtain ⟨k,l,rfl⟩:=qbv.1 f;have i:k < (List.zipWith zdw a.cl b.cl).length:=l;show ((List.zipWith zdw a.cl b.cl)[k]'i).2.length < 1000000;rw [qa8];show ((compR _ _ _).1).length < 1000000;unfold compR;split
    ·exact yp (zlo _) (by decide)
    ·exact Nat.zero_lt_succ _
   exact zk9 r (joinC a b) c e (fun x f=>hr x (yk _ f)) h d
  ·cases h
theorem zml {l:List Crt} {c:Crt} (b:∀ x ∈ l,CrtSm x) (h:zaz l = some c):short c.cl:=by
 rcases l with _ | ⟨a,r⟩
 ·cases h
 ·rw [zaz] at h;split at h
  ·rename_i d;exact zk9 r a c (b a (by simp)) (fun x e=>b x (yk _ e)) h d
  ·cases h
theorem Chn.sm {V:List (List (List UInt8))} {C:List Crt} (h:Chn V C):∀ x ∈ C,CrtSm x:=fun x a=>by
 obtain ⟨k,b,rfl⟩:=qbv.1 a;exact CrtSm.ok (zed.1 (h.chk k b)).ok (h.sh _ a)
structure GrpP (C:List Crt) (K:Nat) (a b w:Crt):Prop where
 a1:zaz (C.take K) = some a
 b1:zaz (C.drop K) = some b
 w1:zaz C = some w
 w2:zaz [a,b] = some w
 ok:crtOk w = true
 len:w.len = C.length
 back:∀ z,zaz [b,a] = some z → b.dst = a.src
 sa:CrtSm a
 sb:CrtSm b
 sw:CrtSm w
theorem grpP {V:List (List (List UInt8))} {C:List Crt} (h:Chn V C) (n:C.length ≤ 64) {K:Nat} (h1:1 ≤ K) (m:K < C.length):∃ a b w,GrpP C K a b w:=by
 obtain ⟨a,b,w,e,f,g,c,i,j,k⟩:=z8z h n h1 m;have ok:∀ l x,zaz l = some x → (∀ y ∈ l,CrtSm y) → crtOk x = true → CrtSm x:=fun l x q o p=>CrtSm.ok p (zml o q)
 have s:crtOk a = true:=by
  rw [zgd] at c;split at c
  ·rename_i h; exact h.1
  ·cases c
 have ob:crtOk b = true:=by
  rw [zgd] at c;split at c
  ·rename_i h; exact (zeh.1 h.2).2.1
  ·cases c
 exact ⟨a,b,w,e,f,g,c,i,j,k,ok _ _ e (fun y d=>h.sm y (jp d)) s,ok _ _ f (fun y d=>h.sm y (yu d)) ob,ok _ _ g h.sm i⟩
end Go.Proofs.YtfnkamphhpldcaaGreatDoor
