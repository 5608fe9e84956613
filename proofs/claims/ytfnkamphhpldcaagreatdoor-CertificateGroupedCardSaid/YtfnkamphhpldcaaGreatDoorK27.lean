import Derived.Test.YtfnkamphhpldcaaGreatDoorK26
set_option maxHeartbeats 64000000
namespace Go.Proofs.YtfnkamphhpldcaaGreatDoor
open Go Sx
set_option maxRecDepth 100000
def zd9 (n:Int):Int:=if 1000000000000 < (if -1000000000000 > n then -1000000000000 else n) then 1000000000000 else (if -1000000000000 > n then -1000000000000 else n)
def zqn (c e:Cel):Bool:=inR e.row c.top c.row && inR e.col c.left c.col
def sumF (c:Cel):List (Cel × Int) → Int → Int
 |[],n=>n
 |(e,v) :: r,n=>sumF c r (if zqn c e = true then IntKind.i64.wrap (n + v) else n)
theorem zry (c:Cel):∀ (l:List (Cel × Int)) (e:Cel) (v n:Int),sumF c (l ++ [(e,v)]) n = if zqn c e = true then IntKind.i64.wrap (sumF c l n + v) else sumF c l n
 |[],_,_,_=>rfl
 |(_,_) :: r,e,v,_=>zry c r e v _
def valF (done:List Cel) (o:List Int) (c:Cel):Int:=zd9 (if c.sum = true then sumF c (done.zip o) c.value else c.value)
def valsA:List Cel → List Cel → List Int → List Int
 |[],_,o=>o
 |c :: r,done,o=>valsA r (done ++ [c]) (o ++ [valF done o c])
def valsF (l:List Cel):List Int:=valsA l [] []
theorem zxk {l:List Cel} {k:Nat} {o:List Int} {c:Cel} (g:k < l.length) (a:l[k] = c):valsA (l.drop k) (l.take k) o = valsA (l.drop (k + 1)) (l.take (k + 1)) (o ++ [valF (l.take k) o c]):=by
 rw [qw g,qh g,a]; rfl
theorem z6t {l:List Cel} {o:List Int} {k j:Nat} {e:Cel} {v:Int} (h:k ≤ l.length) (d:o.length = k) (c:j < k) (b:l[j]? = some e) (f:o[j]? = some v) :
  ((l.take k).zip o).take (j + 1) = ((l.take k).zip o).take j ++ [(e,v)]:=by
 have g:((l.take k).zip o).length = k:=by rw [qal,qk,d]; omega
 rw [qh (by rw [g]; exact c),qdc]
 have h1:(l.take k)[j]'(by rw [qk]; omega) = e:=by
  rw [qc4];exact (qf.1 b).2
 have a:o[j]'(by omega) = v:=(qf.1 f).2;rw [h1,a]
def docE4 (a b:SA) (w:Int) (s:List UInt8):Ent:=.one (.cells 176 (docS a b w s))
theorem zby {n:Nat} {a b:SA} {w:Int} {s:List UInt8} (c:a.below n) (d:b.below n):(docE4 a b w s).below n:=zee (w:=w) (s:=s) c d
def celE (c:Cel):Ent:=.one (.cells 151 (encK c))
theorem zhf {n:Nat} (c:Cel):(celE c).below n:=(SB.bB_ok rfl:SB.below n (.cells 151 (encK c)))
theorem ycw {F a:Fz} {o:List Int} {d b:Nat} {h:Hp} {nx:Nat} (e:Fz.le F a) (g:a b = some (.arr 3 1 (o.map encI) d)) (f:lget h 0 = some (.frz a)) {K:List Cel} (j:valsF K = o) {u:Out} (i:u.ren (resP h) = .ret (.va (.slice false 0 b 0 1 o.length d))) :
  Cln 1 (FoK F fun o a=>∃ r,o = .ret (.va r) ∧ ((K = [] ∧ r = .nilsl) ∨ (zev a r (valsF K) ∧ ∃ b c,r = .slice false 0 b 0 1 (valsF K).length c))) u h nx:=by
 subst j;exact endFo (.ret (.va (.slice false 0 b 0 1 (valsF K).length d))) a f e (Fz.r a) ⟨_,rfl,.inr ⟨Sl.new (l:=valsF K) g,_,_,rfl⟩⟩ (by rw [i]; exact zah _) rfl
theorem z2d (F:Fz) (an:Bool) (ab ae al ac:Nat) (bn:Bool) (bb u E:Nat) (K:List Cel) (w:Int) (s:List UInt8) (hb:Sl F 151 6 encK (.slice bn 0 bb u 6 K.length E) K) (hl:K.length ≤ 1000) (a4:K.length ≤ E) :
  Fo Tryz.prog F 166 [.agg (docS (.slice an 0 ab ae 2 al ac) (.slice bn 0 bb u 6 K.length E) w s)] (fun o F'=>∃ r,o = .ret (.va r) ∧ ((K = [] ∧ r = .nilsl) ∨ (zev F' r (valsF K) ∧ ∃ b c,r = .slice false 0 b 0 1 (valsF K).length c))):=by
 obtain ⟨a9,a6,a8,a7,ad,ba,ar,A,Z,a5,aa⟩:=hb;cases ar
 refine fo_of hΘ Tryz.func166 rfl (by decide) _ _ rfl rfl rfl ?_
 refine zam hΘ (X:={ y:Nat × List Int × Nat // y.1 ≤ K.length ∧ y.2.1.length = y.1 ∧ valsF K = valsA (K.drop y.1) (K.take y.1) y.2.1 }) (fun y=>[(3,.va (gA 1 2 y.1.2.2 y.1.2.1)),(13,.va (.int .i64 y.1.1))]) (4::5::6::7::8::jr 14 49 [])
  (fun y=>[(0,.frz F),(1,docE4 (.slice an 0 ab ae 2 al ac) (.slice bn 0 bb u 6 K.length E) w s),(2,gE 3 1 encI y.1.2.2 y.1.2.1)]) 3 (fun y=>K.length - y.1.1) ⟨(0,[],0),yd _,rfl,rfl⟩
  (fun G I=>leI [(2,2)] G I rfl ⟨tv,zby (.inr (by omega)) (.inr (by omega)),zai za2 _ _ _ _ _,tv⟩ ⟨rfl,rfl,tv⟩ ⟨Fz.r F,rfl,rfl,tv⟩) ?_
 rintro ⟨⟨k,o,co⟩,hk,q,d⟩ G I;replace hk:k ≤ K.length:=hk;replace q:o.length = k:=q;replace d:valsF K = valsA (K.drop k) (K.take k) o:=d;by_cases g:k < K.length
 ·have a0:(k:Int) < (K.length:Nat):=by omega
  have ak:0 ≤ (k:Int) ∧ (k:Int) < (K.length:Nat):=by omega
  have au:∃ c,K[k] = c:=⟨_,rfl⟩
  obtain ⟨c,hc⟩:=au;have ap:ad[u + (k:Int).toNat]? = some (encK c):=by rw [← hc]; exact Sl.at aa g
  rw [zxk g hc] at d;have B:k + 1 ≤ K.length:=g;have f:K.length - (k + 1) < K.length - k:=by omega
  have h:k < 4611686018427387904:=by omega
  refine bri a0 ⟨Sl.lt A g,ak,_,Z (Sl.lt A g),_,ap,?_⟩;conv=>whnf
  by_cases hs:c.sum = true
  ·refine br (fun _=>?_) (fun g2=>absurd hs (by rw [g2]; simp));have W:valF (K.take k) o c = zd9 (sumF c ((K.take k).zip o) c.value):=by rw [valF,if_pos hs]
   have af:0 ≤ (k:Int) ∧ (k:Int) ≤ (E:Nat):=by omega
   refine ⟨af,?_⟩
   refine zam hΘ (X:={ y:Nat × Int // y.1 ≤ k ∧ y.2 = sumF c (((K.take k).zip o).take y.1) c.value }) (fun y=>[(6,.va (.int .i64 y.1.2)),(28,.va (.int .i64 y.1.1))]) (7::8::jr 29 27 [])
    (fun _=>[(0,.frz F),(1,docE4 (.slice an 0 ab ae 2 al ac) (.slice bn 0 bb u 6 K.length E) w s),(2,gE 3 1 encI co o),(3,celE c)]) 4 (fun y=>k - y.1.1) ⟨(0,c.value),yd _,rfl⟩
    (fun G I=>leI [] G I rfl ⟨tv,zby (.inr (by omega)) (.inr (by omega)),zai za2 _ _ _ _ _,zhf _,tv⟩ ⟨rfl,rfl,tv⟩ ⟨Fz.r F,rfl,za0 za2 (za1 _ _ _ _),rfl,tv⟩) ?_
   rintro ⟨⟨j,n⟩,hj,hn⟩ M Q;replace hj:j ≤ k:=hj;replace hn:n = sumF c (((K.take k).zip o).take j) c.value:=hn;by_cases gj:j < k
   ·have az:(j:Int) < (k:Nat):=by omega
    have av:0 ≤ (j:Int) ∧ (j:Int) < (k:Nat):=by omega
    have x:j < K.length:=by omega
    have L:j < o.length:=by omega
    have ag:∃ e v,K[j] = e ∧ o[j] = v:=⟨_,_,rfl,rfl⟩
    obtain ⟨e,v,O,U⟩:=ag
    have Y:ad[(if E = 0 then u else u + 0) + (j:Int).toNat]? = some (encK e):=by
     rw [← O,show (if E = 0 then u else u + 0) = u by split<;>rfl]; exact Sl.at aa x
    have a1:(o.map encI)[0 + (j:Int).toNat]? = some (encI v):=by rw [qv,ql,qu,qc L,U]; rfl
    have ao:=z6t (e:=e) (v:=v) hk q gj (by rw [qc x,O]) (by rw [qc L,U])
    have D:sumF c (((K.take k).zip o).take (j + 1)) c.value = if zqn c e = true then IntKind.i64.wrap (n + v) else n:=by
     rw [ao,zry,← hn]
    have aw:0 ≤ (j:Int) ∧ (j:Int) < (o.length:Nat):=by omega
    have a2:∃ b1 b2,inR e.row c.top c.row = b1 ∧ inR e.col c.left c.col = b2:=⟨_,_,rfl,rfl⟩
    obtain ⟨b1,b2,l,m⟩:=a2;have w1:=zen l F;have w2:=zen m F;have aj:zqn c e = (b1 && b2):=by unfold zqn; rw [l,m]
    rw [aj] at D;have T:j + 1 ≤ k:=gj;have S:k - (j + 1) < k - j:=by omega
    have p:j < 4611686018427387904:=by omega
    clear ao O U l m aj;rcases o with _ | ⟨J,a⟩
    ·exact absurd L (by simp)
    ·refine bri az ⟨Sl.lt A x,av,_,Z (Sl.lt A x),_,Y,?_⟩;refine usePu w1 rfl ⟨rfl,rfl,rfl,tv⟩ rfl ?_;rcases b1 with _ | _
     ·exact ⟨⟨(j + 1,n),T,by rw [D]; rfl⟩,S,leR [] M Q rfl ⟨tv,zby (.inr (by omega)) (.inr (by omega)),zai za2 _ _ _ _ _,zhf _,tv⟩ ⟨rfl,cnt p,tv⟩ ⟨Fz.r F,rfl,za0 za2 (za1 _ _ _ _),rfl,tv⟩⟩
     ·refine usePu w2 rfl ⟨rfl,rfl,rfl,tv⟩ rfl ?_;rcases b2 with _ | _
      ·exact ⟨⟨(j + 1,n),T,by rw [D]; rfl⟩,S,leR [] M Q rfl ⟨tv,zby (.inr (by omega)) (.inr (by omega)),zai za2 _ _ _ _ _,zhf _,tv⟩ ⟨rfl,cnt p,tv⟩ ⟨Fz.r F,rfl,za0 za2 (za1 _ _ _ _),rfl,tv⟩⟩
      ·refine ⟨rfl,aw,rfl,_,a1,?_⟩;exact ⟨⟨(j + 1,IntKind.i64.wrap (n + v)),T,by rw [D]; rfl⟩,S,leR [] M Q rfl ⟨tv,zby (.inr (by omega)) (.inr (by omega)),zai za2 _ _ _ _ _,zhf _,tv⟩ ⟨rfl,cnt p,tv⟩ ⟨Fz.r F,rfl,za0 za2 (za1 _ _ _ _),rfl,tv⟩⟩
   ·have ai:¬ (j:Int) < (k:Nat):=by omega
    have ax:j = k:=by omega
    have a3:((K.take k).zip o).length = k:=by rw [qal,qk,q]; omega
    rw [ax,qo (qce a3)] at hn;rw [← hn] at W;rcases o with _ | ⟨J,a⟩
    ·refine brj ai ⟨nb rfl,[encI (zd9 (n))],rfl,rfl,rfl,by show 1 * 8 ≤ 140737488355328; omega,fun c' R=>?_⟩;exact ⟨⟨(k + 1,([]) ++ [zd9 (n)],c'),B,by rw [qb,yl,q],by rw [W] at d; exact d⟩,f,leRn [_,_,_] [_,_] [(2,5)] G I rfl ⟨tv,zby (.inr (by omega)) (.inr (by omega)),zai za2 _ _ _ _ _,tv⟩ ⟨by (conv=>whnf); exact ⟨rfl,rfl,rfl,.inr ⟨rfl,rfl,rfl,rfl⟩⟩,cnt h,tv⟩ ⟨Fz.r F,rfl,za0 za2 (zb9 _ (by simp)),tv⟩⟩
    ·have V:(a.length + 1 + 1) * 8 ≤ 140737488355328:=by
      have h9:a.length + 1 = k:=q;omega
     refine brj ai ⟨nb rfl,[encI (zd9 (n))],rfl,rfl,rfl,by simp,rfl,V,fun c' R=>?_⟩;exact ⟨⟨(k + 1,(J :: a) ++ [zd9 (n)],c'),B,by rw [qb,yl,q],by rw [W] at d; exact d⟩,f,leRn [_,_,_] [_,_] [(2,5)] G I rfl ⟨tv,zby (.inr (by omega)) (.inr (by omega)),zai za2 _ _ _ _ _,tv⟩ ⟨zg4 (μ:=sig [(2,5)]) (i:=2) (j:=5) rfl 1 c' _ (J :: a) (zd9 n) rfl,cnt h,tv⟩ ⟨Fz.r F,rfl,za0 za2 (zb9 _ (by simp)),tv⟩⟩
  ·refine br (fun g2=>absurd g2 hs) (fun _=>?_);have W:valF (K.take k) o c = zd9 c.value:=by rw [valF,if_neg hs]
   rcases o with _ | ⟨J,a⟩
   ·refine ⟨nb rfl,[encI (zd9 (c.value))],rfl,rfl,rfl,by show 1 * 8 ≤ 140737488355328; omega,fun c' R=>?_⟩;exact ⟨⟨(k + 1,([]) ++ [zd9 (c.value)],c'),B,by rw [qb,yl,q],by rw [W] at d; exact d⟩,f,leR [(2,5)] G I rfl ⟨tv,zby (.inr (by omega)) (.inr (by omega)),zai za2 _ _ _ _ _,tv⟩ ⟨by (conv=>whnf); exact ⟨rfl,rfl,rfl,.inr ⟨rfl,rfl,rfl,rfl⟩⟩,cnt h,tv⟩ ⟨Fz.r F,rfl,za0 za2 (zb9 _ (by simp)),tv⟩⟩
   ·have V:(a.length + 1 + 1) * 8 ≤ 140737488355328:=by
     have h9:a.length + 1 = k:=q;omega
    refine ⟨nb rfl,[encI (zd9 (c.value))],rfl,rfl,rfl,by simp,rfl,V,fun c' R=>?_⟩;exact ⟨⟨(k + 1,(J :: a) ++ [zd9 (c.value)],c'),B,by rw [qb,yl,q],by rw [W] at d; exact d⟩,f,leR [(2,5)] G I rfl ⟨tv,zby (.inr (by omega)) (.inr (by omega)),zai za2 _ _ _ _ _,tv⟩ ⟨zg4 (μ:=sig [(2,5)]) (i:=2) (j:=5) rfl 1 c' _ (J :: a) (zd9 c.value) rfl,cnt h,tv⟩ ⟨Fz.r F,rfl,za0 za2 (zb9 _ (by simp)),tv⟩⟩
 ·have ah:¬ (k:Int) < (K.length:Nat):=by omega
  have am:k = K.length:=by omega
  rw [am,yh (qi _)] at d;replace d:valsF K = o:=d;rcases o with _ | ⟨J,a⟩
  ·have hK:K = []:=jo (by rw [← am,← q]; rfl);refine brj ah ?_;exact endFo (.ret (.va .nilsl)) F rfl (Fz.r F) (Fz.r F) ⟨_,rfl,.inl ⟨hK,rfl⟩⟩ (zah _) rfl
  ·refine brj ah ?_;refine zbe 2 (fun _=>.arr 3 1 ((J :: a).map encI) co) rfl rfl rfl (fun _ _=>by exact zcx za2 rfl _ _ _ _) (fun _ _=>zbj za2 _ _ _ _ _) ?_;intro b' F' ay aq;exact ycw ay (aq 0 ⟨rfl,rfl⟩) rfl d rfl
end Go.Proofs.YtfnkamphhpldcaaGreatDoor
