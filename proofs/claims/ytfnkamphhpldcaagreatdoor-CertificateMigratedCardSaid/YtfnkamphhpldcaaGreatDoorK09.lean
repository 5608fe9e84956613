import Derived.Test.YtfnkamphhpldcaaGreatDoorK08
import Derived.Test.YtfnkamphhpldcaaGreatDoorProg
import Derived.KernelRfl
set_option maxHeartbeats 64000000
namespace Sx
open Go
def zj8 {α:Type} (e:α → List SA):Prop:=∀ x,∀ a ∈ e x,a.z = true
theorem z8i {α:Type} {e:α → List SA} (d:zj8 e) {μ:Mu} (b:∀ k,μ 0 k = (0,k)) (l:List α):(l.map e).map (List.map (SA.ren μ)) = l.map e:=by
 rw [q9];exact q8 fun x _=>zdu (fun a c=>SA.ren_id (.inl (d x a c)) b)
theorem zis {α:Type} {e:α → List SA} (b:zj8 e) {μ:Mu} (a:∀ k,μ 0 k = (0,k)) {L:List (List SA)} {l:List α} (h:L = l.map e) (t sz c:Nat):(SB.arr t sz L c).ren μ = SB.arr t sz (l.map e) c:=by
 subst h;show SB.arr t sz ((l.map e).map (List.map (SA.ren μ))) c = _;rw [z8i b a]
theorem zfc {α:Type} {e:α → List SA} (d:zj8 e) {n:Nat} (f:1 ≤ n) (t sz c:Nat) (l:List α):(SB.arr t sz (l.map e) c).below n:=by
 intro x g a b;obtain ⟨y,_,rfl⟩:=qz.1 g;exact SA.below_mono f (SA.z_below (d y a b))
theorem yd9 {α:Type} {e:α → List SA} (b:zj8 e) {μ:Mu} (a:∀ k,μ 0 k = (0,k)) (t sz c:Nat) (l:List α):(gE t sz e c l).ren μ = gE t sz e c l:=by
 show Ent.opt _ (SB.ren μ _) = _; rw [zis b a rfl]; rfl
theorem zd1 {α:Type} {e:α → List SA} (a:zj8 e) {n:Nat} (b:1 ≤ n) (t sz c:Nat) (l:List α):(gE t sz e c l).below n:=zfc a b t sz c l
theorem zln {α:Type} {e:α → List SA} (b:zj8 e) {t sz c:Nat} {μ:Mu} (a:∀ k,μ 0 k = (0,k)) {l:List α} {x:Option Ent} (h:subE x (gE t sz e c l)):subE x ((gE t sz e c l).ren μ):=by rw [yd9 b a]; exact h
abbrev ZC:={ y:List SA // ∀ a ∈ y,a.z = true }
def encZ (y:ZC):List SA:=y.1
theorem zb7:zj8 encZ:=fun x=>x.2
theorem Sl.z {α:Type} {F:Fz} {t sz:Nat} {enc:α → List SA} {a:SA} {l:List α} (h:Sl F t sz enc a l):a.z = true:=by
 obtain ⟨nil,b,e,cap,L,c,rfl,_⟩:=h; rfl
theorem SlR.nil {α:Type} {F:Fz} {t sz:Nat} {R:List SA → α → Prop}:SlR F t sz R (.slice true 0 0 0 sz 0 0) []:=⟨true,0,0,0,[],0,rfl,fun _=>rfl,(fun h=>nomatch h),by simp,fun k x h=>by simp at h⟩
end Sx
/- The table of the program's types, for the symbolic executor; each row is checked by the kernel. Written by a program (gentab.py). -/
namespace Go.Proofs.YtfnkamphhpldcaaGreatDoor
open Go Sx
set_option maxRecDepth 100000
theorem tk {t : TypeId} {i : TI} (a : Tryz.prog.underlying t = some i.d) (f : TypeInfo) (b : Tryz.prog.info? t = some f := by kernel_rfl) (c : f.size = i.size := by kernel_rfl) (d : f.bytes = i.bytes := by kernel_rfl) (e : ∀ ρ, f.zero = some (zval ρ i) := by exact fun _ => rfl)
    (g:i.zero.length = i.size:=by rfl) (h:i.zero.all zrm = true:=by rfl) (k:(aggD i.d || Nat.beq i.size 1) = true:=by rfl):TI.ok Tryz.prog t i:=⟨a,⟨f,b,c,d,e⟩,g,z7m h,ydd k⟩
noncomputable def ti1:TI:=⟨Go.Proofs.Tryz.t1.desc,1,8,[.nilfn]⟩
theorem ydu:TI.ok Tryz.prog 1 ti1:=tk Tryz.underlying1 Tryz.t1
noncomputable def ti2:TI:=⟨Go.Proofs.Tryz.t2.desc,1,8,[.int .i64 0]⟩
theorem ydv:TI.ok Tryz.prog 2 ti2:=tk Tryz.underlying2 Tryz.t2
noncomputable def ti3:TI:=⟨Go.Proofs.Tryz.t3.desc,1,8,[.int .i64 0]⟩
theorem ydw:TI.ok Tryz.prog 3 ti3:=tk Tryz.underlying3 Tryz.t3
noncomputable def ti4:TI:=⟨Go.Proofs.Tryz.t4.desc,1,1,[.lit false]⟩
theorem ydx:TI.ok Tryz.prog 4 ti4:=tk Tryz.underlying4 Tryz.t4
noncomputable def ti5:TI:=⟨Go.Proofs.Tryz.t5.desc,1,1,[.int .u8 0]⟩
theorem ydy:TI.ok Tryz.prog 5 ti5:=tk Tryz.underlying5 Tryz.t5
noncomputable def ti6:TI:=⟨Go.Proofs.Tryz.t5.desc,1,1,[.int .u8 0]⟩
theorem ydz:TI.ok Tryz.prog 6 ti6:=tk Tryz.underlying6 Tryz.t6
noncomputable def ti7:TI:=⟨Go.Proofs.Tryz.t7.desc,4,24,[.int .i64 0,.int .i64 0,.lit false,.int .u8 0]⟩
theorem yd0:TI.ok Tryz.prog 7 ti7:=tk Tryz.underlying7 Tryz.t7
noncomputable def ti8:TI:=⟨Go.Proofs.Tryz.t7.desc,4,24,[.int .i64 0,.int .i64 0,.lit false,.int .u8 0]⟩
theorem yd1:TI.ok Tryz.prog 8 ti8:=tk Tryz.underlying8 Tryz.t8
noncomputable def ti9:TI:=⟨Go.Proofs.Tryz.t9.desc,1,16,[.str []]⟩
theorem yd2:TI.ok Tryz.prog 9 ti9:=tk Tryz.underlying9 Tryz.t9
noncomputable def ti16:TI:=⟨Go.Proofs.Tryz.t16.desc,1,8,[.nilptr]⟩
theorem ya4:TI.ok Tryz.prog 16 ti16:=tk Tryz.underlying16 Tryz.t16
noncomputable def ti20:TI:=⟨Go.Proofs.Tryz.t20.desc,1,16,[.nilif]⟩
theorem ya5:TI.ok Tryz.prog 20 ti20:=tk Tryz.underlying20 Tryz.t20
noncomputable def ti21:TI:=⟨Go.Proofs.Tryz.t21.desc,1,4,[.int .i32 0]⟩
theorem ya6:TI.ok Tryz.prog 21 ti21:=tk Tryz.underlying21 Tryz.t21
noncomputable def ti22:TI:=⟨Go.Proofs.Tryz.t22.desc,1,24,[.nilsl]⟩
theorem ya7:TI.ok Tryz.prog 22 ti22:=tk Tryz.underlying22 Tryz.t22
noncomputable def ti23:TI:=⟨Go.Proofs.Tryz.t23.desc,1,24,[.nilsl]⟩
theorem ya8:TI.ok Tryz.prog 23 ti23:=tk Tryz.underlying23 Tryz.t23
noncomputable def ti24:TI:=⟨Go.Proofs.Tryz.t24.desc,2,16,[.int .i64 0,.int .i64 0]⟩
theorem ya9:TI.ok Tryz.prog 24 ti24:=tk Tryz.underlying24 Tryz.t24
noncomputable def ti25:TI:=⟨Go.Proofs.Tryz.t25.desc,1,24,[.nilsl]⟩
theorem yba:TI.ok Tryz.prog 25 ti25:=tk Tryz.underlying25 Tryz.t25
noncomputable def ti27:TI:=⟨Go.Proofs.Tryz.t26.desc,5,88,[.nilsl,.nilsl,.int .i64 0,.int .i64 0,.nilsl]⟩
theorem ybb:TI.ok Tryz.prog 27 ti27:=tk Tryz.underlying27 Tryz.t27
noncomputable def ti28:TI:=⟨Go.Proofs.Tryz.t28.desc,5,40,[.int .i64 0,.int .i64 0,.int .i64 0,.int .i64 0,.int .i64 0]⟩
theorem ybc:TI.ok Tryz.prog 28 ti28:=tk Tryz.underlying28 Tryz.t28
noncomputable def ti30:TI:=⟨Go.Proofs.Tryz.t30.desc,1,24,[.nilsl]⟩
theorem ybd:TI.ok Tryz.prog 30 ti30:=tk Tryz.underlying30 Tryz.t30
noncomputable def ti32:TI:=⟨Go.Proofs.Tryz.t31.desc,5,56,[.int .i64 0,.int .i64 0,.int .i64 0,.lit false,.nilsl]⟩
theorem ybe:TI.ok Tryz.prog 32 ti32:=tk Tryz.underlying32 Tryz.t32
noncomputable def ti34:TI:=⟨Go.Proofs.Tryz.t34.desc,1,24,[.nilsl]⟩
theorem ybf:TI.ok Tryz.prog 34 ti34:=tk Tryz.underlying34 Tryz.t34
noncomputable def ti35:TI:=⟨Go.Proofs.Tryz.t3.desc,1,8,[.int .i64 0]⟩
theorem ybg:TI.ok Tryz.prog 35 ti35:=tk Tryz.underlying35 Tryz.t35
noncomputable def ti38:TI:=⟨Go.Proofs.Tryz.t38.desc,1,24,[.nilsl]⟩
theorem ybh:TI.ok Tryz.prog 38 ti38:=tk Tryz.underlying38 Tryz.t38
noncomputable def ti39:TI:=⟨Go.Proofs.Tryz.t39.desc,1,24,[.nilsl]⟩
theorem ybi:TI.ok Tryz.prog 39 ti39:=tk Tryz.underlying39 Tryz.t39
noncomputable def ti41:TI:=⟨Go.Proofs.Tryz.t40.desc,4,72,[.nilsl,.nilsl,.int .i64 0,.str []]⟩
theorem ybj:TI.ok Tryz.prog 41 ti41:=tk Tryz.underlying41 Tryz.t41
noncomputable def ti43:TI:=⟨Go.Proofs.Tryz.t43.desc,1,24,[.nilsl]⟩
theorem ybk:TI.ok Tryz.prog 43 ti43:=tk Tryz.underlying43 Tryz.t43
noncomputable def ti48:TI:=⟨Go.Proofs.Tryz.t47.desc,4,64,[.str [],.str [],.int .i64 0,.nilsl]⟩
theorem ybl:TI.ok Tryz.prog 48 ti48:=tk Tryz.underlying48 Tryz.t48
noncomputable def ti50:TI:=⟨Go.Proofs.Tryz.t50.desc,1,24,[.nilsl]⟩
theorem ybm:TI.ok Tryz.prog 50 ti50:=tk Tryz.underlying50 Tryz.t50
noncomputable def ti52:TI:=⟨Go.Proofs.Tryz.t51.desc,2,32,[.int .i64 0,.nilsl]⟩
theorem ybn:TI.ok Tryz.prog 52 ti52:=tk Tryz.underlying52 Tryz.t52
noncomputable def ti56:TI:=⟨Go.Proofs.Tryz.t55.desc,2,16,[.int .i64 0,.int .i64 0]⟩
theorem ybo:TI.ok Tryz.prog 56 ti56:=tk Tryz.underlying56 Tryz.t56
noncomputable def ti64:TI:=⟨Go.Proofs.Tryz.t64.desc,1,24,[.nilsl]⟩
theorem ybp:TI.ok Tryz.prog 64 ti64:=tk Tryz.underlying64 Tryz.t64
noncomputable def ti65:TI:=⟨Go.Proofs.Tryz.t65.desc,1,24,[.nilsl]⟩
theorem ybq:TI.ok Tryz.prog 65 ti65:=tk Tryz.underlying65 Tryz.t65
noncomputable def ti70:TI:=⟨Go.Proofs.Tryz.t70.desc,1,24,[.nilsl]⟩
theorem ybr:TI.ok Tryz.prog 70 ti70:=tk Tryz.underlying70 Tryz.t70
noncomputable def ti81:TI:=⟨Go.Proofs.Tryz.t81.desc,1,24,[.nilsl]⟩
theorem ybs:TI.ok Tryz.prog 81 ti81:=tk Tryz.underlying81 Tryz.t81
noncomputable def ti90:TI:=⟨Go.Proofs.Tryz.t90.desc,1,8,[.nilfn]⟩
theorem ybt:TI.ok Tryz.prog 90 ti90:=tk Tryz.underlying90 Tryz.t90
noncomputable def ti91:TI:=⟨Go.Proofs.Tryz.t91.desc,1,8,[.nilfn]⟩
theorem ybu:TI.ok Tryz.prog 91 ti91:=tk Tryz.underlying91 Tryz.t91
noncomputable def ti96:TI:=⟨Go.Proofs.Tryz.t51.desc,2,32,[.int .i64 0,.nilsl]⟩
theorem ybv:TI.ok Tryz.prog 96 ti96:=tk Tryz.underlying96 Tryz.t96
noncomputable def ti99:TI:=⟨Go.Proofs.Tryz.t99.desc,1,24,[.nilsl]⟩
theorem ybw:TI.ok Tryz.prog 99 ti99:=tk Tryz.underlying99 Tryz.t99
noncomputable def ti100:TI:=⟨Go.Proofs.Tryz.t100.desc,1,24,[.nilsl]⟩
theorem z4a:TI.ok Tryz.prog 100 ti100:=tk Tryz.underlying100 Tryz.t100
noncomputable def ti105:TI:=⟨Go.Proofs.Tryz.t104.desc,5,56,[.int .i64 0,.int .i64 0,.int .i64 0,.lit false,.nilsl]⟩
theorem z4b:TI.ok Tryz.prog 105 ti105:=tk Tryz.underlying105 Tryz.t105
noncomputable def ti117:TI:=⟨Go.Proofs.Tryz.t117.desc,1,8,[.nilfn]⟩
theorem z4c:TI.ok Tryz.prog 117 ti117:=tk Tryz.underlying117 Tryz.t117
noncomputable def ti121:TI:=⟨Go.Proofs.Tryz.t121.desc,1,8,[.nilfn]⟩
theorem z4d:TI.ok Tryz.prog 121 ti121:=tk Tryz.underlying121 Tryz.t121
noncomputable def ti125:TI:=⟨Go.Proofs.Tryz.t124.desc,1,16,[.nilif]⟩
theorem z4e:TI.ok Tryz.prog 125 ti125:=tk Tryz.underlying125 Tryz.t125
noncomputable def ti128:TI:=⟨Go.Proofs.Tryz.t128.desc,1,8,[.nilfn]⟩
theorem z4f:TI.ok Tryz.prog 128 ti128:=tk Tryz.underlying128 Tryz.t128
noncomputable def ti135:TI:=⟨Go.Proofs.Tryz.t135.desc,2,32,[.str [],.str []]⟩
theorem z4g:TI.ok Tryz.prog 135 ti135:=tk Tryz.underlying135 Tryz.t135
noncomputable def ti137:TI:=⟨Go.Proofs.Tryz.t137.desc,1,8,[.nilptr]⟩
theorem z4h:TI.ok Tryz.prog 137 ti137:=tk Tryz.underlying137 Tryz.t137
noncomputable def ti139:TI:=⟨Go.Proofs.Tryz.t138.desc,2,24,[.str [],.int .i64 0]⟩
theorem z4i:TI.ok Tryz.prog 139 ti139:=tk Tryz.underlying139 Tryz.t139
noncomputable def ti148:TI:=⟨Go.Proofs.Tryz.t147.desc,2,24,[.str [],.int .i64 0]⟩
theorem z4j:TI.ok Tryz.prog 148 ti148:=tk Tryz.underlying148 Tryz.t148
noncomputable def ti151:TI:=⟨Go.Proofs.Tryz.t150.desc,6,48,[.int .i64 0,.int .i64 0,.lit false,.int .i64 0,.int .i64 0,.int .i64 0]⟩
theorem z4k:TI.ok Tryz.prog 151 ti151:=tk Tryz.underlying151 Tryz.t151
noncomputable def ti153:TI:=⟨Go.Proofs.Tryz.t153.desc,1,8,[.nilptr]⟩
theorem z4l:TI.ok Tryz.prog 153 ti153:=tk Tryz.underlying153 Tryz.t153
noncomputable def ti156:TI:=⟨Go.Proofs.Tryz.t156.desc,1,8,[.nilfn]⟩
theorem z4m:TI.ok Tryz.prog 156 ti156:=tk Tryz.underlying156 Tryz.t156
noncomputable def ti158:TI:=⟨Go.Proofs.Tryz.t158.desc,1,8,[.nilfn]⟩
theorem z4n:TI.ok Tryz.prog 158 ti158:=tk Tryz.underlying158 Tryz.t158
noncomputable def ti160:TI:=⟨Go.Proofs.Tryz.t160.desc,1,8,[.nilptr]⟩
theorem z4o:TI.ok Tryz.prog 160 ti160:=tk Tryz.underlying160 Tryz.t160
noncomputable def ti165:TI:=⟨Go.Proofs.Tryz.t165.desc,1,8,[.nilfn]⟩
theorem z4p:TI.ok Tryz.prog 165 ti165:=tk Tryz.underlying165 Tryz.t165
noncomputable def ti167:TI:=⟨Go.Proofs.Tryz.t167.desc,1,8,[.nilmap]⟩
theorem z4q:TI.ok Tryz.prog 167 ti167:=tk Tryz.underlying167 Tryz.t167
noncomputable def ti170:TI:=⟨Go.Proofs.Tryz.t170.desc,1,8,[.nilptr]⟩
theorem z4r:TI.ok Tryz.prog 170 ti170:=tk Tryz.underlying170 Tryz.t170
noncomputable def ti172:TI:=⟨Go.Proofs.Tryz.t171.desc,2,32,[.nilptr,.nilsl]⟩
theorem z4s:TI.ok Tryz.prog 172 ti172:=tk Tryz.underlying172 Tryz.t172
noncomputable def ti174:TI:=⟨Go.Proofs.Tryz.t173.desc,2,32,[.nilptr,.nilsl]⟩
theorem z4t:TI.ok Tryz.prog 174 ti174:=tk Tryz.underlying174 Tryz.t174
noncomputable def ti176:TI:=⟨Go.Proofs.Tryz.t175.desc,4,72,[.nilsl,.nilsl,.int .i64 0,.str []]⟩
theorem z4u:TI.ok Tryz.prog 176 ti176:=tk Tryz.underlying176 Tryz.t176
noncomputable def ti177:TI:=⟨Go.Proofs.Tryz.t177.desc,3,24,[.int .i64 0,.int .i64 0,.int .i64 0]⟩
theorem z4v:TI.ok Tryz.prog 177 ti177:=tk Tryz.underlying177 Tryz.t177
noncomputable def ti178:TI:=⟨Go.Proofs.Tryz.t178.desc,1,8,[.nilfn]⟩
theorem z4w:TI.ok Tryz.prog 178 ti178:=tk Tryz.underlying178 Tryz.t178
noncomputable def ti184:TI:=⟨Go.Proofs.Tryz.t183.desc,1,8,[.nilfn]⟩
theorem z4x:TI.ok Tryz.prog 184 ti184:=tk Tryz.underlying184 Tryz.t184
noncomputable def ti196:TI:=⟨Go.Proofs.Tryz.t196.desc,1,8,[.nilptr]⟩
theorem z4y:TI.ok Tryz.prog 196 ti196:=tk Tryz.underlying196 Tryz.t196
noncomputable def ti197:TI:=⟨Go.Proofs.Tryz.t197.desc,1,8,[.nilptr]⟩
theorem z4z:TI.ok Tryz.prog 197 ti197:=tk Tryz.underlying197 Tryz.t197
noncomputable def ti199:TI:=⟨Go.Proofs.Tryz.t199.desc,1,24,[.nilsl]⟩
theorem z5a:TI.ok Tryz.prog 199 ti199:=tk Tryz.underlying199 Tryz.t199
noncomputable def ti201:TI:=⟨Go.Proofs.Tryz.t200.desc,5,64,[.lit false,.nilsl,.int .i64 0,.int .i64 0,.str []]⟩
theorem z5b:TI.ok Tryz.prog 201 ti201:=tk Tryz.underlying201 Tryz.t201
noncomputable def ti203:TI:=⟨Go.Proofs.Tryz.t203.desc,1,8,[.nilfn]⟩
theorem z5c:TI.ok Tryz.prog 203 ti203:=tk Tryz.underlying203 Tryz.t203
noncomputable def ti205:TI:=⟨Go.Proofs.Tryz.t204.desc,3,40,[.nilsl,.nilfn,.nilfn]⟩
theorem z5d:TI.ok Tryz.prog 205 ti205:=tk Tryz.underlying205 Tryz.t205
noncomputable def ti206:TI:=⟨Go.Proofs.Tryz.t206.desc,21,280,[.nilsl,.nilfn,.nilfn,.nilsl,.nilfn,.nilfn,.nilsl,.nilfn,.nilfn,.nilsl,.nilfn,.nilfn,.nilsl,.nilfn,.nilfn,.nilsl,.nilfn,.nilfn,.nilsl,.nilfn,.nilfn]⟩
theorem z5e:TI.ok Tryz.prog 206 ti206:=tk Tryz.underlying206 Tryz.t206
noncomputable def ti208:TI:=⟨Go.Proofs.Tryz.t208.desc,1,8,[.nilptr]⟩
theorem z5f:TI.ok Tryz.prog 208 ti208:=tk Tryz.underlying208 Tryz.t208
noncomputable def ti213:TI:=⟨Go.Proofs.Tryz.t3.desc,1,8,[.int .i64 0]⟩
theorem z5g:TI.ok Tryz.prog 213 ti213:=tk Tryz.underlying213 Tryz.t213
noncomputable def ti217:TI:=⟨Go.Proofs.Tryz.t216.desc,1,8,[.nilfn]⟩
theorem z5h:TI.ok Tryz.prog 217 ti217:=tk Tryz.underlying217 Tryz.t217
noncomputable def ti219:TI:=⟨Go.Proofs.Tryz.t219.desc,1,8,[.int .u64 0]⟩
theorem z5i:TI.ok Tryz.prog 219 ti219:=tk Tryz.underlying219 Tryz.t219
noncomputable def ti220:TI:=⟨Go.Proofs.Tryz.t220.desc,1,8,[.int .u64 0]⟩
theorem z5j:TI.ok Tryz.prog 220 ti220:=tk Tryz.underlying220 Tryz.t220
noncomputable def ti224:TI:=⟨Go.Proofs.Tryz.t224.desc,1,8,[.nilfn]⟩
theorem z5k:TI.ok Tryz.prog 224 ti224:=tk Tryz.underlying224 Tryz.t224
noncomputable def ti226:TI:=⟨Go.Proofs.Tryz.t226.desc,1,8,[.nilfn]⟩
theorem z5l:TI.ok Tryz.prog 226 ti226:=tk Tryz.underlying226 Tryz.t226
noncomputable def ti228:TI:=⟨Go.Proofs.Tryz.t227.desc,2,24,[.str [],.int .i64 0]⟩
theorem z5m:TI.ok Tryz.prog 228 ti228:=tk Tryz.underlying228 Tryz.t228
noncomputable def ti231:TI:=⟨Go.Proofs.Tryz.t231.desc,1,4,[.int .u32 0]⟩
theorem z5n:TI.ok Tryz.prog 231 ti231:=tk Tryz.underlying231 Tryz.t231
noncomputable def ti232:TI:=⟨Go.Proofs.Tryz.t232.desc,1,24,[.nilsl]⟩
theorem z5o:TI.ok Tryz.prog 232 ti232:=tk Tryz.underlying232 Tryz.t232
noncomputable def ti238:TI:=⟨Go.Proofs.Tryz.t238.desc,1,8,[.nilptr]⟩
theorem z5p:TI.ok Tryz.prog 238 ti238:=tk Tryz.underlying238 Tryz.t238
noncomputable def ti240:TI:=⟨Go.Proofs.Tryz.t240.desc,1,8,[.nilmap]⟩
theorem z5q:TI.ok Tryz.prog 240 ti240:=tk Tryz.underlying240 Tryz.t240
noncomputable def ti243:TI:=⟨Go.Proofs.Tryz.t243.desc,1,8,[.nilfn]⟩
theorem z5r:TI.ok Tryz.prog 243 ti243:=tk Tryz.underlying243 Tryz.t243
noncomputable def ti246:TI:=⟨Go.Proofs.Tryz.t245.desc,8,32,[.int .u32 0,.int .u32 0,.int .u32 0,.int .u32 0,.int .u32 0,.int .u32 0,.int .u32 0,.int .u32 0]⟩
theorem z5s:TI.ok Tryz.prog 246 ti246:=tk Tryz.underlying246 Tryz.t246
noncomputable def ti248:TI:=⟨Go.Proofs.Tryz.t247.desc,1,8,[.nilfn]⟩
theorem z5t:TI.ok Tryz.prog 248 ti248:=tk Tryz.underlying248 Tryz.t248
noncomputable def ti251:TI:=⟨Go.Proofs.Tryz.t251.desc,1,8,[.nilfn]⟩
theorem z5u:TI.ok Tryz.prog 251 ti251:=tk Tryz.underlying251 Tryz.t251
noncomputable def ti254:TI:=⟨Go.Proofs.Tryz.t254.desc,1,8,[.nilfn]⟩
theorem z5v:TI.ok Tryz.prog 254 ti254:=tk Tryz.underlying254 Tryz.t254
noncomputable def ti255:TI:=⟨Go.Proofs.Tryz.t255.desc,1,8,[.nilptr]⟩
theorem z5w:TI.ok Tryz.prog 255 ti255:=tk Tryz.underlying255 Tryz.t255
noncomputable def ti256:TI:=⟨Go.Proofs.Tryz.t256.desc,2,24,[.str [],.int .i64 0]⟩
theorem z5x:TI.ok Tryz.prog 256 ti256:=tk Tryz.underlying256 Tryz.t256
noncomputable def ti257:TI:=⟨Go.Proofs.Tryz.t256.desc,2,24,[.str [],.int .i64 0]⟩
theorem z5y:TI.ok Tryz.prog 257 ti257:=tk Tryz.underlying257 Tryz.t257
noncomputable def ti259:TI:=⟨Go.Proofs.Tryz.t258.desc,2,40,[.str [],.nilsl]⟩
theorem z5z:TI.ok Tryz.prog 259 ti259:=tk Tryz.underlying259 Tryz.t259
noncomputable def ti262:TI:=⟨Go.Proofs.Tryz.t262.desc,1,8,[.nilfn]⟩
theorem z6a:TI.ok Tryz.prog 262 ti262:=tk Tryz.underlying262 Tryz.t262
noncomputable def ti264:TI:=⟨Go.Proofs.Tryz.t264.desc,1,8,[.nilptr]⟩
theorem z6b:TI.ok Tryz.prog 264 ti264:=tk Tryz.underlying264 Tryz.t264
noncomputable def ti265:TI:=⟨Go.Proofs.Tryz.t265.desc,7,168,[.nilsl,.nilsl,.nilsl,.nilsl,.nilsl,.nilsl,.nilsl]⟩
theorem z6c:TI.ok Tryz.prog 265 ti265:=tk Tryz.underlying265 Tryz.t265
noncomputable def ti268:TI:=⟨Go.Proofs.Tryz.t267.desc,1,16,[.nilif]⟩
theorem z6d:TI.ok Tryz.prog 268 ti268:=tk Tryz.underlying268 Tryz.t268
noncomputable def ti275:TI:=⟨Go.Proofs.Tryz.t275.desc,1,8,[.nilfn]⟩
theorem z6e:TI.ok Tryz.prog 275 ti275:=tk Tryz.underlying275 Tryz.t275
noncomputable def ti276:TI:=⟨Go.Proofs.Tryz.t276.desc,1,8,[.nilfn]⟩
theorem z6f:TI.ok Tryz.prog 276 ti276:=tk Tryz.underlying276 Tryz.t276
noncomputable def ti285:TI:=⟨Go.Proofs.Tryz.t285.desc,1,8,[.nilfn]⟩
theorem z6g:TI.ok Tryz.prog 285 ti285:=tk Tryz.underlying285 Tryz.t285
noncomputable def ti286:TI:=⟨Go.Proofs.Tryz.t286.desc,1,8,[.nilptr]⟩
theorem z6h:TI.ok Tryz.prog 286 ti286:=tk Tryz.underlying286 Tryz.t286
noncomputable def ti287:TI:=⟨Go.Proofs.Tryz.t287.desc,64,256,[.int .u32 0,.int .u32 0,.int .u32 0,.int .u32 0,.int .u32 0,.int .u32 0,.int .u32 0,.int .u32 0,.int .u32 0,.int .u32 0,.int .u32 0,.int .u32 0,.int .u32 0,.int .u32 0,.int .u32 0,.int .u32 0,.int .u32 0,.int .u32 0,.int .u32 0,.int .u32 0,.int .u32 0,.int .u32 0,.int .u32 0,.int .u32 0,.int .u32 0,.int .u32 0,.int .u32 0,.int .u32 0,.int .u32 0,.int .u32 0,.int .u32 0,.int .u32 0,.int .u32 0,.int .u32 0,.int .u32 0,.int .u32 0,.int .u32 0,.int .u32 0,.int .u32 0,.int .u32 0,.int .u32 0,.int .u32 0,.int .u32 0,.int .u32 0,.int .u32 0,.int .u32 0,.int .u32 0,.int .u32 0,.int .u32 0,.int .u32 0,.int .u32 0,.int .u32 0,.int .u32 0,.int .u32 0,.int .u32 0,.int .u32 0,.int .u32 0,.int .u32 0,.int .u32 0,.int .u32 0,.int .u32 0,.int .u32 0,.int .u32 0,.int .u32 0]⟩
theorem z6i:TI.ok Tryz.prog 287 ti287:=tk Tryz.underlying287 Tryz.t287
noncomputable def ti290:TI:=⟨Go.Proofs.Tryz.t290.desc,32,32,[.int .u8 0,.int .u8 0,.int .u8 0,.int .u8 0,.int .u8 0,.int .u8 0,.int .u8 0,.int .u8 0,.int .u8 0,.int .u8 0,.int .u8 0,.int .u8 0,.int .u8 0,.int .u8 0,.int .u8 0,.int .u8 0,.int .u8 0,.int .u8 0,.int .u8 0,.int .u8 0,.int .u8 0,.int .u8 0,.int .u8 0,.int .u8 0,.int .u8 0,.int .u8 0,.int .u8 0,.int .u8 0,.int .u8 0,.int .u8 0,.int .u8 0,.int .u8 0]⟩
theorem z6j:TI.ok Tryz.prog 290 ti290:=tk Tryz.underlying290 Tryz.t290
noncomputable def ti299:TI:=⟨Go.Proofs.Tryz.t299.desc,1,8,[.nilptr]⟩
theorem z6k:TI.ok Tryz.prog 299 ti299:=tk Tryz.underlying299 Tryz.t299
noncomputable def ti317:TI:=⟨Go.Proofs.Tryz.t317.desc,1,24,[.nilsl]⟩
theorem z6l:TI.ok Tryz.prog 317 ti317:=tk Tryz.underlying317 Tryz.t317
noncomputable def ti326:TI:=⟨Go.Proofs.Tryz.t326.desc,6,48,[.int .i64 0,.int .i64 0,.int .i64 0,.int .i64 0,.int .i64 0,.int .i64 0]⟩
theorem z6m:TI.ok Tryz.prog 326 ti326:=tk Tryz.underlying326 Tryz.t326
noncomputable def ti329:TI:=⟨Go.Proofs.Tryz.t329.desc,1,8,[.nilfn]⟩
theorem z6n:TI.ok Tryz.prog 329 ti329:=tk Tryz.underlying329 Tryz.t329
noncomputable def ti334:TI:=⟨Go.Proofs.Tryz.t334.desc,1,8,[.nilptr]⟩
theorem z6o:TI.ok Tryz.prog 334 ti334:=tk Tryz.underlying334 Tryz.t334
noncomputable def ti347:TI:=⟨Go.Proofs.Tryz.t346.desc,2,2,[.int .u8 0,.int .u8 0]⟩
theorem z6p:TI.ok Tryz.prog 347 ti347:=tk Tryz.underlying347 Tryz.t347
noncomputable def ti348:TI:=⟨Go.Proofs.Tryz.t348.desc,32,32,[.int .u8 0,.int .u8 0,.int .u8 0,.int .u8 0,.int .u8 0,.int .u8 0,.int .u8 0,.int .u8 0,.int .u8 0,.int .u8 0,.int .u8 0,.int .u8 0,.int .u8 0,.int .u8 0,.int .u8 0,.int .u8 0,.int .u8 0,.int .u8 0,.int .u8 0,.int .u8 0,.int .u8 0,.int .u8 0,.int .u8 0,.int .u8 0,.int .u8 0,.int .u8 0,.int .u8 0,.int .u8 0,.int .u8 0,.int .u8 0,.int .u8 0,.int .u8 0]⟩
theorem z6q:TI.ok Tryz.prog 348 ti348:=tk Tryz.underlying348 Tryz.t348
noncomputable def ti353:TI:=⟨Go.Proofs.Tryz.t353.desc,1,24,[.nilsl]⟩
theorem z6r:TI.ok Tryz.prog 353 ti353:=tk Tryz.underlying353 Tryz.t353
noncomputable def ti355:TI:=⟨Go.Proofs.Tryz.t355.desc,1,8,[.nilptr]⟩
theorem z6s:TI.ok Tryz.prog 355 ti355:=tk Tryz.underlying355 Tryz.t355
noncomputable def ti360:TI:=⟨Go.Proofs.Tryz.t359.desc,3,12,[.int .i32 0,.int .i32 0,.int .i32 0]⟩
theorem z6t:TI.ok Tryz.prog 360 ti360:=tk Tryz.underlying360 Tryz.t360
noncomputable def ti362:TI:=⟨Go.Proofs.Tryz.t361.desc,5,20,[.int .u32 0,.int .u32 0,.int .i32 0,.int .i32 0,.int .i32 0]⟩
theorem z6u:TI.ok Tryz.prog 362 ti362:=tk Tryz.underlying362 Tryz.t362
noncomputable def ti365:TI:=⟨Go.Proofs.Tryz.t365.desc,0,0,[]⟩
theorem z6v:TI.ok Tryz.prog 365 ti365:=tk Tryz.underlying365 Tryz.t365
noncomputable def ti367:TI:=⟨Go.Proofs.Tryz.t366.desc,0,0,[]⟩
theorem z6w:TI.ok Tryz.prog 367 ti367:=tk Tryz.underlying367 Tryz.t367
noncomputable def tab:Tr:=(.node 170 (.node 50 (.node 23 (.node 7 (.node 3 (.leaf [(1,ti1),(2,ti2),(3,ti3)]) (.leaf [(4,ti4),(5,ti5),(6,ti6),(7,ti7)])) (.node 16 (.leaf [(8,ti8),(9,ti9),(16,ti16)]) (.leaf [(20,ti20),(21,ti21),(22,ti22),(23,ti23)]))) (.node 34 (.node 27 (.leaf [(24,ti24),(25,ti25),(27,ti27)]) (.leaf [(28,ti28),(30,ti30),(32,ti32),(34,ti34)])) (.node 39 (.leaf [(35,ti35),(38,ti38),(39,ti39)]) (.leaf [(41,ti41),(43,ti43),(48,ti48),(50,ti50)])))) (.node 121 (.node 90 (.node 64 (.leaf [(52,ti52),(56,ti56),(64,ti64)]) (.leaf [(65,ti65),(70,ti70),(81,ti81),(90,ti90)])) (.node 99 (.leaf [(91,ti91),(96,ti96),(99,ti99)]) (.leaf [(100,ti100),(105,ti105),(117,ti117),(121,ti121)]))) (.node 151 (.node 135 (.leaf [(125,ti125),(128,ti128),(135,ti135)]) (.leaf [(137,ti137),(139,ti139),(148,ti148),(151,ti151)])) (.node 158 (.leaf [(153,ti153),(156,ti156),(158,ti158)]) (.leaf [(160,ti160),(165,ti165),(167,ti167),(170,ti170)]))))) (.node 248 (.node 208 (.node 196 (.node 176 (.leaf [(172,ti172),(174,ti174),(176,ti176)]) (.leaf [(177,ti177),(178,ti178),(184,ti184),(196,ti196)])) (.node 201 (.leaf [(197,ti197),(199,ti199),(201,ti201)]) (.leaf [(203,ti203),(205,ti205),(206,ti206),(208,ti208)]))) (.node 228 (.node 219 (.leaf [(213,ti213),(217,ti217),(219,ti219)]) (.leaf [(220,ti220),(224,ti224),(226,ti226),(228,ti228)])) (.node 238 (.leaf [(231,ti231),(232,ti232),(238,ti238)]) (.leaf [(240,ti240),(243,ti243),(246,ti246),(248,ti248)])))) (.node 286 (.node 262 (.node 255 (.leaf [(251,ti251),(254,ti254),(255,ti255)]) (.leaf [(256,ti256),(257,ti257),(259,ti259),(262,ti262)])) (.node 268 (.leaf [(264,ti264),(265,ti265),(268,ti268)]) (.leaf [(275,ti275),(276,ti276),(285,ti285),(286,ti286)]))) (.node 334 (.node 299 (.leaf [(287,ti287),(290,ti290),(299,ti299)]) (.leaf [(317,ti317),(326,ti326),(329,ti329),(334,ti334)])) (.node 355 (.leaf [(347,ti347),(348,ti348),(353,ti353),(355,ti355)]) (.leaf [(360,ti360),(362,ti362),(365,ti365),(367,ti367)]))))))
noncomputable def Θ:Tys:=tab.get
theorem hΘ:Tys.Ok Tryz.prog Θ:=Tr.ok tab ⟨⟨⟨⟨⟨⟨ydu,⟨ydv,⟨ydw,tv⟩⟩⟩,⟨ydx,⟨ydy,⟨ydz,⟨yd0,tv⟩⟩⟩⟩⟩,⟨⟨yd1,⟨yd2,⟨ya4,tv⟩⟩⟩,⟨ya5,⟨ya6,⟨ya7,⟨ya8,tv⟩⟩⟩⟩⟩⟩,⟨⟨⟨ya9,⟨yba,⟨ybb,tv⟩⟩⟩,⟨ybc,⟨ybd,⟨ybe,⟨ybf,tv⟩⟩⟩⟩⟩,⟨⟨ybg,⟨ybh,⟨ybi,tv⟩⟩⟩,⟨ybj,⟨ybk,⟨ybl,⟨ybm,tv⟩⟩⟩⟩⟩⟩⟩,⟨⟨⟨⟨ybn,⟨ybo,⟨ybp,tv⟩⟩⟩,⟨ybq,⟨ybr,⟨ybs,⟨ybt,tv⟩⟩⟩⟩⟩,⟨⟨ybu,⟨ybv,⟨ybw,tv⟩⟩⟩,⟨z4a,⟨z4b,⟨z4c,⟨z4d,tv⟩⟩⟩⟩⟩⟩,⟨⟨⟨z4e,⟨z4f,⟨z4g,tv⟩⟩⟩,⟨z4h,⟨z4i,⟨z4j,⟨z4k,tv⟩⟩⟩⟩⟩,⟨⟨z4l,⟨z4m,⟨z4n,tv⟩⟩⟩,⟨z4o,⟨z4p,⟨z4q,⟨z4r,tv⟩⟩⟩⟩⟩⟩⟩⟩,⟨⟨⟨⟨⟨z4s,⟨z4t,⟨z4u,tv⟩⟩⟩,⟨z4v,⟨z4w,⟨z4x,⟨z4y,tv⟩⟩⟩⟩⟩,⟨⟨z4z,⟨z5a,⟨z5b,tv⟩⟩⟩,⟨z5c,⟨z5d,⟨z5e,⟨z5f,tv⟩⟩⟩⟩⟩⟩,⟨⟨⟨z5g,⟨z5h,⟨z5i,tv⟩⟩⟩,⟨z5j,⟨z5k,⟨z5l,⟨z5m,tv⟩⟩⟩⟩⟩,⟨⟨z5n,⟨z5o,⟨z5p,tv⟩⟩⟩,⟨z5q,⟨z5r,⟨z5s,⟨z5t,tv⟩⟩⟩⟩⟩⟩⟩,⟨⟨⟨⟨z5u,⟨z5v,⟨z5w,tv⟩⟩⟩,⟨z5x,⟨z5y,⟨z5z,⟨z6a,tv⟩⟩⟩⟩⟩,⟨⟨z6b,⟨z6c,⟨z6d,tv⟩⟩⟩,⟨z6e,⟨z6f,⟨z6g,⟨z6h,tv⟩⟩⟩⟩⟩⟩,⟨⟨⟨z6i,⟨z6j,⟨z6k,tv⟩⟩⟩,⟨z6l,⟨z6m,⟨z6n,⟨z6o,tv⟩⟩⟩⟩⟩,⟨⟨z6p,⟨z6q,⟨z6r,⟨z6s,tv⟩⟩⟩⟩,⟨z6t,⟨z6u,⟨z6v,⟨z6w,tv⟩⟩⟩⟩⟩⟩⟩⟩⟩
end Go.Proofs.YtfnkamphhpldcaaGreatDoor
namespace Go.Proofs.YtfnkamphhpldcaaGreatDoor
open Go Sx
set_option maxRecDepth 100000
theorem z1o:(Tryz.prog.fieldsOf 56).toList = [⟨ "Kind", 3,0,false, "", "", 0⟩,⟨ "N", 3,1,false, "", "", 8⟩]:=by kernel_rfl
theorem agg50 (a b c d:Int):AggEq Tryz.prog 56 [.int .i64 a,.int .i64 b] [.int .i64 c,.int .i64 d] (decide (a = c) && decide (b = d)):=by
 unfold AggEq;intro ρ w i x y;refine ⟨run_eqGuard_agg _ _ _ _ _ _ _ Tryz.eqGuardType56,?_⟩;have h1:=run_equalIn_agg (P:=Tryz.prog) w (9998 + 1) 56 #[.int .i64 a,.int .i64 b] #[.int .i64 c,.int .i64 d] (by kernel_rfl) Tryz.stoodInHeld56
 have g:(Op.eqFields (9998 + 1) #[Value.int .i64 a,.int .i64 b] #[Value.int .i64 c,.int .i64 d] (Tryz.prog.fieldsOf 56).toList).run Tryz.prog w = .ok (decide (a = c) && decide (b = d)) w:=by
  rw [z1o];have h:∀ (u v:Int),(Op.equalIn (9998 + 1) 3 (.int .i64 u) (.int .i64 v)).run Tryz.prog w = .ok (u == v) w:=fun u v=>run_equalIn_int w 9998 3 .i64 .i64 u v Tryz.underlying3
  have q:(isAgg 3).run Tryz.prog w = .ok false w:=Tryz.isAgg3 w;by_cases e:a = c<;>by_cases f:b = d<;>simp [Op.eqFields,part,q,h,e,f]
 exact h1.trans g
abbrev Stp:=Int × Int
def enc (s:Stp):List SA:=[.int .i64 s.1,.int .i64 s.2]
def encI (n:Int):List SA:=[.int .i64 n]
abbrev za1 (F:Fz) (a:SA) (l:List Stp):Prop:=Sl F 56 2 enc a l
abbrev zek (F:Fz) (a:SA) (l:List Int):Prop:=Sl F 3 1 encI a l
theorem zxq (μ:Mu) (l:List Stp):(l.map enc).map (List.map (SA.ren μ)) = l.map enc:=by
 rw [q9]; exact q8 fun s _=>rfl
theorem z1h (μ:Mu) (l:List Int):(l.map encI).map (List.map (SA.ren μ)) = l.map encI:=by
 rw [q9]; exact q8 fun s _=>rfl
theorem zgz (μ:Mu) (l:List Stp) (c:Nat):(SB.arr 56 2 (l.map enc) c).ren μ = SB.arr 56 2 (l.map enc) c:=by
 show SB.arr 56 2 ((l.map enc).map (List.map (SA.ren μ))) c = _; rw [zxq]
theorem zcj (μ:Mu) (l:List Int) (c:Nat):(SB.arr 3 1 (l.map encI) c).ren μ = SB.arr 3 1 (l.map encI) c:=by
 show SB.arr 3 1 ((l.map encI).map (List.map (SA.ren μ))) c = _; rw [z1h]
theorem zd6 (n:Nat) (l:List Stp) (c:Nat):(SB.arr 56 2 (l.map enc) c).below n:=by
 intro x d a b;obtain ⟨s,_,rfl⟩:=qz.1 d;simp only [enc,qj,qs,or_false] at b;rcases b with rfl | rfl<;>trivial
theorem zbx (n:Nat) (l:List Int) (c:Nat):(SB.arr 3 1 (l.map encI) c).below n:=by
 intro x d a b;obtain ⟨s,_,rfl⟩:=qz.1 d;simp only [encI,qj,qs,or_false] at b;subst b; trivial
theorem zaj {n:Int} (h1:-9223372036854775808 ≤ n) (a:n ≤ 9223372036854775807):IntKind.i64.wrap n = n:=IntWalk.i64_in _ (by omega)
theorem cnt {k:Nat} (h:k < 4611686018427387904):SA.int .i64 ((k + 1:Nat):Int) = SA.int .i64 (IntKind.i64.wrap ((k:Int) + 1)):=by
 rw [zaj (by omega) (by omega)]; rfl
theorem neq_f {x y:Nat} (h:(!decide ((x:Int) = y)) = false):x = y:=by
 simp at h; omega
theorem mixed:Tryz.prog.follows .mixedOrders = true:=by kernel_rfl
theorem yas (F:Fz) (w x:SA) (a b:List Stp) (B:za1 F w a) (E:za1 F x b) (V:a.length < 1000000) :
  Fo Tryz.prog F 46 [.va w,.va x] (fun o j=>o = .ret (.va (.bool (decide (a = b)))) ∧ j = F):=by
 obtain ⟨W,L,R,O,J,Y,rfl,f,n,D,p⟩:=B;obtain ⟨nb,M,S,Q,K,Z,rfl,i,q,G,s⟩:=E
 have c:∀ (v:Bool) (h:Hp) (nx:Nat),v = decide (a = b) → lget h 0 = some (.frz F) →
   Cln 1 (FoK F fun o j=>o = .ret (.va (.bool (decide (a = b)))) ∧ j = F) (.ret (.va (.bool v))) h nx:=by
  intro v h nx I y;exact endPu y (Fz.r F) (by rw [I]; rfl) rfl
 refine fo_of hΘ Tryz.func46 rfl (by decide) _ _ rfl rfl rfl ?_;refine br (fun g=>?_) (fun g=>?_)
 ·refine c _ _ _ ?_ rfl;have:¬ a = b:=by rintro rfl; simp at g
  simp [this]
 ·have T:a.length = b.length:=neq_f g
  refine zam hΘ (X:={ k:Nat // k ≤ a.length ∧ a.take k = b.take k }) (fun k=>[(5,.va (.int .i64 k.1))]) [4,11,12,13,14,15,16,17,18,19,20,21,22,23,24,25] (fz fun _=>F) 1 (fun k=>a.length - k.1) ⟨0,by simp⟩
   (fun l m=>le0 l m rfl (Fz.r F) rfl ⟨rfl,tv⟩) ?_
  rintro ⟨k,U,u⟩ l m;refine br (fun g=>?_) (fun g=>?_)
  ·have g:k < a.length:=by simpa using g
   have e:k < b.length:=by omega
   refine draw hΘ mixed [(0,true),(1,true),(2,true),(3,true),(4,true),(5,true),(6,true),(7,true),(8,true)] [] (by kernel_rfl) ?_;refine ⟨Sl.lt f g,⟨by simp,by simpa using g⟩,rfl,_,n (Sl.lt f g),_,Sl.at p g,Sl.lt i e,⟨by simp,by simpa using e⟩,rfl,_,q (Sl.lt i e),_,Sl.at s e,_,agg50 _ _ _ _,?_⟩;refine br (fun d=>?_) (fun d=>?_)
   ·refine c _ _ _ ?_ rfl;have:¬ a = b:=by rintro rfl; simp at d
    simp [this]
   ·refine ⟨⟨k + 1,by omega,?_⟩,by show a.length - (k + 1) < a.length - k; omega,lr0 l m rfl (Fz.r F) rfl ⟨cnt (by omega),tv⟩⟩
    have A:a[k] = b[k]:=by
     simp at d; exact Prod.ext d.1 d.2
    rw [qg g,qg e,u,A]
  ·refine c _ _ _ ?_ rfl;have g:¬ k < a.length:=by simpa using g
   have h1:a = b:=by
    rw [qn (by omega),qn (by omega)] at u; exact u
   simp [h1]
end Go.Proofs.YtfnkamphhpldcaaGreatDoor
