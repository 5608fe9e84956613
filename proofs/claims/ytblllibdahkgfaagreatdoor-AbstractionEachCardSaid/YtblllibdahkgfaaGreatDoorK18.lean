import Derived.Shelf.Strings.OnBuilder
import Derived.Shelf.Strings.Trim
import Derived.Shelf.Strings.Search3
import Derived.Ground.GgwProg
import Derived.Shelf.GgClosure.StringsIndexFuncTop
import Derived.Shelf.Strings.Replace
import Derived.Shelf.Strings.Repeat
import Derived.Test.YtblllibdahkgfaaGreatDoorProg
import Derived.Test.YtblllibdahkgfaaGreatDoorK17
import Derived.Shelf.GgClosure.StringsRunes
import Derived.Shelf.Strings.SlTrimAscii
import Derived.Laws.RangeAny
import Derived.Laws.RangeString
import Derived.Defers
import Derived.Recover

namespace Go.Proofs
open Go.Shelf
def Tryz.lays159_ren : Go.Shelf.Ren := ⟨fun | 159 => 94 | 165 => 131 | 166 => 132 | 167 => 133 | 169 => 91 | 230 => 134 | 204 => 135 | 240 => 157 | 241 => 158 | 197 => 142 | 118 => 159 | 168 => 160 | 270 => 161 | 262 => 162 | 276 => 175 | 277 => 176 | 260 => 168 | 242 => 177 | 313 => 178 | 278 => 187 | 274 => 188 | 275 => 189 | n => n, fun | 9 => 9 | 4 => 4 | 3 => 3 | 5 => 5 | 72 => 140 | 0 => 0 | 76 => 180 | 75 => 179 | 107 => 184 | 70 => 138 | 20 => 20 | 37 => 40 | 127 => 177 | 21 => 21 | 105 => 190 | 164 => 210 | 162 => 216 | 203 => 214 | 119 => 219 | 46 => 164 | 139 => 222 | 138 => 221 | 51 => 201 | 160 => 223 | 208 => 230 | 206 => 228 | 80 => 104 | n => n, fun | 13 => 0 | 3 => 2 | 4 => 3 | n => n⟩
theorem Tryz.lays159 : Go.Proofs.Lays.n159 Tryz.prog Tryz.lays159_ren := {
 mixed := by kernel_rfl
 f118 := Tryz.func159.trans (congrArg some (by kernel_rfl))
 f159 := Tryz.func94.trans (congrArg some (by kernel_rfl))
 f165 := Tryz.func131.trans (congrArg some (by kernel_rfl))
 f166 := Tryz.func132.trans (congrArg some (by kernel_rfl))
 f167 := Tryz.func133.trans (congrArg some (by kernel_rfl))
 f168 := Tryz.func160.trans (congrArg some (by kernel_rfl))
 f169 := Tryz.func91.trans (congrArg some (by kernel_rfl))
 f197 := Tryz.func142.trans (congrArg some (by kernel_rfl))
 f204 := Tryz.func135.trans (congrArg some (by kernel_rfl))
 f230 := Tryz.func134.trans (congrArg some (by kernel_rfl))
 f240 := Tryz.func157.trans (congrArg some (by kernel_rfl))
 f241 := Tryz.func158.trans (congrArg some (by kernel_rfl))
 f242 := Tryz.func177.trans (congrArg some (by kernel_rfl))
 f260 := Tryz.func168.trans (congrArg some (by kernel_rfl))
 f262 := Tryz.func162.trans (congrArg some (by kernel_rfl))
 f270 := Tryz.func161.trans (congrArg some (by kernel_rfl))
 f274 := Tryz.func188.trans (congrArg some (by kernel_rfl))
 f275 := Tryz.func189.trans (congrArg some (by kernel_rfl))
 f276 := Tryz.func175.trans (congrArg some (by kernel_rfl))
 f277 := Tryz.func176.trans (congrArg some (by kernel_rfl))
 f278 := Tryz.func187.trans (congrArg some (by kernel_rfl))
 f313 := Tryz.func178.trans (congrArg some (by kernel_rfl))
 t0 := Tryz.underlying0
 a0 := Tryz.isAgg0
 z0 := Tryz.sizeOf0
 v0 := Tryz.zeroValue0
 t3 := Tryz.underlying3
 a3 := Tryz.isAgg3
 z3 := Tryz.sizeOf3
 v3 := Tryz.zeroValue3
 t4 := Tryz.underlying4
 a4 := Tryz.isAgg4
 z4 := Tryz.sizeOf4
 v4 := Tryz.zeroValue4
 t5 := Tryz.underlying5
 a5 := Tryz.isAgg5
 z5 := Tryz.sizeOf5
 v5 := Tryz.zeroValue5
 t9 := Tryz.underlying9
 a9 := Tryz.isAgg9
 z9 := Tryz.sizeOf9
 v9 := Tryz.zeroValue9
 t20 := Tryz.underlying20
 a20 := Tryz.isAgg20
 z20 := Tryz.sizeOf20
 v20 := Tryz.zeroValue20
 t21 := Tryz.underlying21
 a21 := Tryz.isAgg21
 z21 := Tryz.sizeOf21
 v21 := Tryz.zeroValue21
 t37 := Tryz.underlying40
 a37 := Tryz.isAgg40
 z37 := Tryz.sizeOf40
 v37 := Tryz.zeroValue40
 t46 := Tryz.underlying164
 a46 := Tryz.isAgg164
 z46 := Tryz.sizeOf164
 v46 := Tryz.zeroValue164
 t51 := Tryz.underlying201
 a51 := Tryz.isAgg201
 z51 := Tryz.sizeOf201
 v51 := Tryz.zeroValue201
 t70 := Tryz.underlying138
 a70 := Tryz.isAgg138
 z70 := Tryz.sizeOf138
 v70 := Tryz.zeroValue138
 t72 := Tryz.underlying140
 a72 := Tryz.isAgg140
 z72 := Tryz.sizeOf140
 v72 := Tryz.zeroValue140
 t75 := Tryz.underlying179
 a75 := Tryz.isAgg179
 z75 := Tryz.sizeOf179
 v75 := Tryz.zeroValue179
 t76 := Tryz.underlying180
 a76 := Tryz.isAgg180
 z76 := Tryz.sizeOf180
 v76 := Tryz.zeroValue180
 t105 := Tryz.underlying190
 a105 := Tryz.isAgg190
 z105 := Tryz.sizeOf190
 v105 := Tryz.zeroValue190
 t107 := Tryz.underlying184
 a107 := Tryz.isAgg184
 z107 := Tryz.sizeOf184
 v107 := Tryz.zeroValue184
 t119 := Tryz.underlying219
 a119 := Tryz.isAgg219
 z119 := Tryz.sizeOf219
 t127 := Tryz.underlying177
 a127 := Tryz.isAgg177
 z127 := Tryz.sizeOf177
 v127 := Tryz.zeroValue177
 t138 := Tryz.underlying221
 a138 := Tryz.isAgg221
 z138 := Tryz.sizeOf221
 v138 := Tryz.zeroValue221
 t139 := Tryz.underlying222
 a139 := Tryz.isAgg222
 z139 := Tryz.sizeOf222
 v139 := Tryz.zeroValue222
 t160 := Tryz.underlying223
 a160 := Tryz.isAgg223
 z160 := Tryz.sizeOf223
 v160 := Tryz.zeroValue223
 t162 := Tryz.underlying216
 a162 := Tryz.isAgg216
 z162 := Tryz.sizeOf216
 v162 := Tryz.zeroValue216
 t164 := Tryz.underlying210
 a164 := Tryz.isAgg210
 z164 := Tryz.sizeOf210
 v164 := Tryz.zeroValue210
 t203 := Tryz.underlying214
 a203 := Tryz.isAgg214
 z203 := Tryz.sizeOf214
 v203 := Tryz.zeroValue214
 t206 := Tryz.underlying228
 a206 := Tryz.isAgg228
 z206 := Tryz.sizeOf228
 v206 := Tryz.zeroValue228
 t208 := Tryz.underlying230
 a208 := Tryz.isAgg230
 z208 := Tryz.sizeOf230
 v208 := Tryz.zeroValue230
 g3 := by kernel_rfl
 g4 := by kernel_rfl
 g13 := by kernel_rfl }
theorem Tryz.Builder_Extra_159 : Builder.Extra Tryz.prog Tryz.lays159_ren := {
 sizeBuilder := by kernel_rfl
 liesBuilder := by kernel_rfl
 t5 := Tryz.underlying5
 a5 := Tryz.isAgg5
 z5 := Tryz.sizeOf5
 v5 := Tryz.zeroValue5
 infoByte := by kernel_rfl
 cellsByte := by kernel_rfl
 sizeByte := by kernel_rfl
 neB5 := by decide }
open Go.RowKit in
theorem Tryz.strings_ToLower_ascii (s : ByteArray) (w : World) (hs : s.size ≤ 140737488355328) (hascii : ∀ (j : Nat) (b : UInt8), s.data.toList[j]? = some b → b.toNat < 128) :
  Calls Tryz.prog 94 #[.string s] w fun e w' => e = .returned (.string ⟨(Lib.toLowerA s.data.toList).toArray⟩) ∧ Below w.heap.size w w' := Any.strings_ToLower_ascii Tryz.lays159 Tryz.Builder_Extra_159 s w hs hascii
def Tryz.lays160_ren : Go.Shelf.Ren := ⟨fun | 160 => 77 | 232 => 101 | 231 => 100 | 227 => 102 | 234 => 104 | 233 => 103 | 236 => 106 | 235 => 105 | 228 => 141 | 271 => 144 | 151 => 143 | 197 => 142 | 120 => 170 | 152 => 169 | 260 => 168 | 137 => 185 | 119 => 186 | 224 => 181 | 225 => 180 | 217 => 179 | 266 => 190 | n => n, fun | 9 => 9 | 4 => 4 | 3 => 3 | 5 => 5 | 117 => 152 | 116 => 151 | 0 => 0 | 124 => 155 | 21 => 21 | 105 => 190 | 46 => 164 | 119 => 219 | 139 => 222 | 138 => 221 | n => n, fun | 3 => 2 | 4 => 3 | n => n⟩
theorem Tryz.lays160 : Go.Proofs.Lays.n160 Tryz.prog Tryz.lays160_ren := {
 mixed := by kernel_rfl
 f119 := Tryz.func186.trans (congrArg some (by kernel_rfl))
 f120 := Tryz.func170.trans (congrArg some (by kernel_rfl))
 f137 := Tryz.func185.trans (congrArg some (by kernel_rfl))
 f151 := Tryz.func143.trans (congrArg some (by kernel_rfl))
 f152 := Tryz.func169.trans (congrArg some (by kernel_rfl))
 f160 := Tryz.func77.trans (congrArg some (by kernel_rfl))
 f197 := Tryz.func142.trans (congrArg some (by kernel_rfl))
 f217 := Tryz.func179.trans (congrArg some (by kernel_rfl))
 f224 := Tryz.func181.trans (congrArg some (by kernel_rfl))
 f225 := Tryz.func180.trans (congrArg some (by kernel_rfl))
 f227 := Tryz.func102.trans (congrArg some (by kernel_rfl))
 f228 := Tryz.func141.trans (congrArg some (by kernel_rfl))
 f231 := Tryz.func100.trans (congrArg some (by kernel_rfl))
 f232 := Tryz.func101.trans (congrArg some (by kernel_rfl))
 f233 := Tryz.func103.trans (congrArg some (by kernel_rfl))
 f234 := Tryz.func104.trans (congrArg some (by kernel_rfl))
 f235 := Tryz.func105.trans (congrArg some (by kernel_rfl))
 f236 := Tryz.func106.trans (congrArg some (by kernel_rfl))
 f260 := Tryz.func168.trans (congrArg some (by kernel_rfl))
 f266 := Tryz.func190.trans (congrArg some (by kernel_rfl))
 f271 := Tryz.func144.trans (congrArg some (by kernel_rfl))
 t0 := Tryz.underlying0
 a0 := Tryz.isAgg0
 z0 := Tryz.sizeOf0
 v0 := Tryz.zeroValue0
 t3 := Tryz.underlying3
 a3 := Tryz.isAgg3
 z3 := Tryz.sizeOf3
 v3 := Tryz.zeroValue3
 t4 := Tryz.underlying4
 a4 := Tryz.isAgg4
 z4 := Tryz.sizeOf4
 v4 := Tryz.zeroValue4
 t5 := Tryz.underlying5
 a5 := Tryz.isAgg5
 z5 := Tryz.sizeOf5
 v5 := Tryz.zeroValue5
 t9 := Tryz.underlying9
 a9 := Tryz.isAgg9
 z9 := Tryz.sizeOf9
 v9 := Tryz.zeroValue9
 t21 := Tryz.underlying21
 a21 := Tryz.isAgg21
 z21 := Tryz.sizeOf21
 v21 := Tryz.zeroValue21
 t46 := Tryz.underlying164
 a46 := Tryz.isAgg164
 z46 := Tryz.sizeOf164
 v46 := Tryz.zeroValue164
 t105 := Tryz.underlying190
 a105 := Tryz.isAgg190
 z105 := Tryz.sizeOf190
 v105 := Tryz.zeroValue190
 t116 := Tryz.underlying151
 a116 := Tryz.isAgg151
 z116 := Tryz.sizeOf151
 t117 := Tryz.underlying152
 a117 := Tryz.isAgg152
 z117 := Tryz.sizeOf152
 v117 := Tryz.zeroValue152
 t119 := Tryz.underlying219
 a119 := Tryz.isAgg219
 z119 := Tryz.sizeOf219
 t124 := Tryz.underlying155
 a124 := Tryz.isAgg155
 z124 := Tryz.sizeOf155
 v124 := Tryz.zeroValue155
 t138 := Tryz.underlying221
 a138 := Tryz.isAgg221
 z138 := Tryz.sizeOf221
 v138 := Tryz.zeroValue221
 t139 := Tryz.underlying222
 a139 := Tryz.isAgg222
 z139 := Tryz.sizeOf222
 v139 := Tryz.zeroValue222
 g3 := by kernel_rfl
 g4 := by kernel_rfl }
def Tryz.lays144_ren : Go.Shelf.Ren := ⟨fun | 144 => 95 | 143 => 136 | 219 => 163 | 217 => 179 | 225 => 180 | 224 => 181 | 267 => 182 | 266 => 190 | 314 => 191 | n => n, fun | 9 => 9 | 4 => 4 | 3 => 3 | 5 => 5 | 46 => 164 | 146 => 202 | 51 => 201 | n => n, fun | 1 => 1 | n => n⟩
theorem Tryz.lays144 : Go.Proofs.Lays.n144 Tryz.prog Tryz.lays144_ren := {
 mixed := by kernel_rfl
 f143 := Tryz.func136.trans (congrArg some (by kernel_rfl))
 f144 := Tryz.func95.trans (congrArg some (by kernel_rfl))
 f217 := Tryz.func179.trans (congrArg some (by kernel_rfl))
 f219 := Tryz.func163.trans (congrArg some (by kernel_rfl))
 f224 := Tryz.func181.trans (congrArg some (by kernel_rfl))
 f225 := Tryz.func180.trans (congrArg some (by kernel_rfl))
 f266 := Tryz.func190.trans (congrArg some (by kernel_rfl))
 f267 := Tryz.func182.trans (congrArg some (by kernel_rfl))
 f314 := Tryz.func191.trans (congrArg some (by kernel_rfl))
 t3 := Tryz.underlying3
 a3 := Tryz.isAgg3
 z3 := Tryz.sizeOf3
 v3 := Tryz.zeroValue3
 t4 := Tryz.underlying4
 a4 := Tryz.isAgg4
 z4 := Tryz.sizeOf4
 v4 := Tryz.zeroValue4
 t5 := Tryz.underlying5
 a5 := Tryz.isAgg5
 z5 := Tryz.sizeOf5
 v5 := Tryz.zeroValue5
 t9 := Tryz.underlying9
 a9 := Tryz.isAgg9
 z9 := Tryz.sizeOf9
 v9 := Tryz.zeroValue9
 t46 := Tryz.underlying164
 a46 := Tryz.isAgg164
 z46 := Tryz.sizeOf164
 v46 := Tryz.zeroValue164
 t51 := Tryz.underlying201
 a51 := Tryz.isAgg201
 z51 := Tryz.sizeOf201
 v51 := Tryz.zeroValue201
 t146 := Tryz.underlying202
 a146 := Tryz.isAgg202
 z146 := Tryz.sizeOf202
 v146 := Tryz.zeroValue202
 g1 := by kernel_rfl }
open Go.RowKit Go.Lib in
theorem Tryz.strings_Contains (s sub : ByteArray) (m : Int) (w : World) (hs : s.size < 4294967281) (hm : w.cell? ⟨1, 0, none⟩ = some (.int .i64 m)) :
  Calls Tryz.prog 95 #[.string s, .string sub] w fun e w' => e = .returned (.bool (Lib.contains s.data.toList sub.data.toList)) ∧ w' = w := Any.strings_Contains Tryz.lays144 s sub m w hs hm
def Tryz.laysGw17_ren : Go.Shelf.Ren := ⟨fun | 17 => 107 | 15 => 145 | 20 => 171 | n => n, fun | 9 => 9 | 23 => 157 | 4 => 4 | 3 => 3 | 0 => 0 | 21 => 21 | n => n, fun | n => n⟩
theorem Tryz.laysGw17 : Go.Proofs.LaysGw.n17 Tryz.prog Tryz.laysGw17_ren := {
 mixed := by kernel_rfl
 f15 := Tryz.func145.trans (congrArg some (by kernel_rfl))
 f17 := Tryz.func107.trans (congrArg some (by kernel_rfl))
 f20 := Tryz.func171.trans (congrArg some (by kernel_rfl))
 t0 := Tryz.underlying0
 a0 := Tryz.isAgg0
 z0 := Tryz.sizeOf0
 v0 := Tryz.zeroValue0
 i0 := by kernel_rfl
 t3 := Tryz.underlying3
 a3 := Tryz.isAgg3
 z3 := Tryz.sizeOf3
 v3 := Tryz.zeroValue3
 i3 := by kernel_rfl
 t4 := Tryz.underlying4
 a4 := Tryz.isAgg4
 z4 := Tryz.sizeOf4
 v4 := Tryz.zeroValue4
 i4 := by kernel_rfl
 t9 := Tryz.underlying9
 a9 := Tryz.isAgg9
 z9 := Tryz.sizeOf9
 v9 := Tryz.zeroValue9
 i9 := by kernel_rfl
 t21 := Tryz.underlying21
 a21 := Tryz.isAgg21
 z21 := Tryz.sizeOf21
 v21 := Tryz.zeroValue21
 i21 := by kernel_rfl
 t23 := Tryz.underlying157
 a23 := Tryz.isAgg157
 z23 := Tryz.sizeOf157
 v23 := Tryz.zeroValue157
 i23 := by kernel_rfl }
open Go.RowKit Go.Lib in
def Tryz.lays155_ren : Go.Shelf.Ren := ⟨fun | 155 => 96 | 154 => 137 | 138 => 164 | 165 => 131 | 143 => 136 | 166 => 132 | 197 => 142 | 169 => 91 | 195 => 183 | 218 => 184 | 240 => 157 | 241 => 158 | 219 => 163 | 260 => 168 | 276 => 175 | 277 => 176 | 217 => 179 | 225 => 180 | 224 => 181 | 267 => 182 | 266 => 190 | 314 => 191 | n => n, fun | 9 => 9 | 3 => 3 | 4 => 4 | 72 => 140 | 0 => 0 | 76 => 180 | 105 => 190 | 21 => 21 | 5 => 5 | 70 => 138 | 20 => 20 | 37 => 40 | 75 => 179 | 127 => 177 | 164 => 210 | 46 => 164 | 119 => 219 | 139 => 222 | 138 => 221 | 146 => 202 | 51 => 201 | 80 => 104 | n => n, fun | 1 => 1 | 3 => 2 | 4 => 3 | n => n⟩
theorem Tryz.lays155 : Go.Proofs.Lays.n155 Tryz.prog Tryz.lays155_ren := {
 mixed := by kernel_rfl
 f138 := Tryz.func164.trans (congrArg some (by kernel_rfl))
 f143 := Tryz.func136.trans (congrArg some (by kernel_rfl))
 f154 := Tryz.func137.trans (congrArg some (by kernel_rfl))
 f155 := Tryz.func96.trans (congrArg some (by kernel_rfl))
 f165 := Tryz.func131.trans (congrArg some (by kernel_rfl))
 f166 := Tryz.func132.trans (congrArg some (by kernel_rfl))
 f169 := Tryz.func91.trans (congrArg some (by kernel_rfl))
 f195 := Tryz.func183.trans (congrArg some (by kernel_rfl))
 f197 := Tryz.func142.trans (congrArg some (by kernel_rfl))
 f217 := Tryz.func179.trans (congrArg some (by kernel_rfl))
 f218 := Tryz.func184.trans (congrArg some (by kernel_rfl))
 f219 := Tryz.func163.trans (congrArg some (by kernel_rfl))
 f224 := Tryz.func181.trans (congrArg some (by kernel_rfl))
 f225 := Tryz.func180.trans (congrArg some (by kernel_rfl))
 f240 := Tryz.func157.trans (congrArg some (by kernel_rfl))
 f241 := Tryz.func158.trans (congrArg some (by kernel_rfl))
 f260 := Tryz.func168.trans (congrArg some (by kernel_rfl))
 f266 := Tryz.func190.trans (congrArg some (by kernel_rfl))
 f267 := Tryz.func182.trans (congrArg some (by kernel_rfl))
 f276 := Tryz.func175.trans (congrArg some (by kernel_rfl))
 f277 := Tryz.func176.trans (congrArg some (by kernel_rfl))
 f314 := Tryz.func191.trans (congrArg some (by kernel_rfl))
 t0 := Tryz.underlying0
 a0 := Tryz.isAgg0
 z0 := Tryz.sizeOf0
 v0 := Tryz.zeroValue0
 t3 := Tryz.underlying3
 a3 := Tryz.isAgg3
 z3 := Tryz.sizeOf3
 v3 := Tryz.zeroValue3
 t4 := Tryz.underlying4
 a4 := Tryz.isAgg4
 z4 := Tryz.sizeOf4
 v4 := Tryz.zeroValue4
 t5 := Tryz.underlying5
 a5 := Tryz.isAgg5
 z5 := Tryz.sizeOf5
 v5 := Tryz.zeroValue5
 t9 := Tryz.underlying9
 a9 := Tryz.isAgg9
 z9 := Tryz.sizeOf9
 v9 := Tryz.zeroValue9
 t20 := Tryz.underlying20
 a20 := Tryz.isAgg20
 z20 := Tryz.sizeOf20
 v20 := Tryz.zeroValue20
 t21 := Tryz.underlying21
 a21 := Tryz.isAgg21
 z21 := Tryz.sizeOf21
 v21 := Tryz.zeroValue21
 t37 := Tryz.underlying40
 a37 := Tryz.isAgg40
 z37 := Tryz.sizeOf40
 v37 := Tryz.zeroValue40
 t46 := Tryz.underlying164
 a46 := Tryz.isAgg164
 z46 := Tryz.sizeOf164
 v46 := Tryz.zeroValue164
 t51 := Tryz.underlying201
 a51 := Tryz.isAgg201
 z51 := Tryz.sizeOf201
 v51 := Tryz.zeroValue201
 t70 := Tryz.underlying138
 a70 := Tryz.isAgg138
 z70 := Tryz.sizeOf138
 v70 := Tryz.zeroValue138
 t72 := Tryz.underlying140
 a72 := Tryz.isAgg140
 z72 := Tryz.sizeOf140
 v72 := Tryz.zeroValue140
 t75 := Tryz.underlying179
 a75 := Tryz.isAgg179
 z75 := Tryz.sizeOf179
 v75 := Tryz.zeroValue179
 t76 := Tryz.underlying180
 a76 := Tryz.isAgg180
 z76 := Tryz.sizeOf180
 v76 := Tryz.zeroValue180
 t105 := Tryz.underlying190
 a105 := Tryz.isAgg190
 z105 := Tryz.sizeOf190
 v105 := Tryz.zeroValue190
 t119 := Tryz.underlying219
 a119 := Tryz.isAgg219
 z119 := Tryz.sizeOf219
 t127 := Tryz.underlying177
 a127 := Tryz.isAgg177
 z127 := Tryz.sizeOf177
 v127 := Tryz.zeroValue177
 t138 := Tryz.underlying221
 a138 := Tryz.isAgg221
 z138 := Tryz.sizeOf221
 v138 := Tryz.zeroValue221
 t139 := Tryz.underlying222
 a139 := Tryz.isAgg222
 z139 := Tryz.sizeOf222
 v139 := Tryz.zeroValue222
 t146 := Tryz.underlying202
 a146 := Tryz.isAgg202
 z146 := Tryz.sizeOf202
 v146 := Tryz.zeroValue202
 t164 := Tryz.underlying210
 a164 := Tryz.isAgg210
 z164 := Tryz.sizeOf210
 v164 := Tryz.zeroValue210
 g1 := by kernel_rfl
 g3 := by kernel_rfl
 g4 := by kernel_rfl }
theorem Tryz.Builder_Extra_155 : Builder.Extra Tryz.prog Tryz.lays155_ren := {
 sizeBuilder := by kernel_rfl
 liesBuilder := by kernel_rfl
 t5 := Tryz.underlying5
 a5 := Tryz.isAgg5
 z5 := Tryz.sizeOf5
 v5 := Tryz.zeroValue5
 infoByte := by kernel_rfl
 cellsByte := by kernel_rfl
 sizeByte := by kernel_rfl
 neB5 := by decide }
open Go.RowKit Go.Lib in
theorem Tryz.strings_ReplaceAll (s old new : ByteArray) (m : Int) (w : World) (hs : s.size < 4294967281) (hm : w.cell? ⟨1, 0, none⟩ = some (.int .i64 m)) (h1 : 1 ≤ old.size) (hlen : s.size + Lib.countB s old * new.size ≤ 140737488355328) :
  Calls Tryz.prog 96 #[.string s, .string old, .string new] w fun e w' =>
   e = .returned (.string ⟨(Lib.replaceAll s.data.toList old.data.toList new.data.toList).toArray⟩) ∧ Below w.heap.size w w' := Any.strings_ReplaceAll Tryz.lays155 Tryz.Builder_Extra_155 s old new m w hs hm h1 hlen
def Tryz.lays105_ren : Go.Shelf.Ren := ⟨fun | 105 => 97 | 212 => 138 | 99 => 139 | 165 => 131 | 166 => 132 | 170 => 140 | 169 => 91 | 263 => 165 | 264 => 166 | 206 => 167 | 240 => 157 | 241 => 158 | 276 => 175 | 277 => 176 | n => n, fun | 9 => 9 | 3 => 3 | 4 => 4 | 20 => 20 | 0 => 0 | 46 => 164 | 109 => 187 | 5 => 5 | 72 => 140 | 76 => 180 | 51 => 201 | 146 => 202 | 53 => 130 | 148 => 204 | 70 => 138 | 37 => 40 | 75 => 179 | 127 => 177 | 164 => 210 | 80 => 104 | n => n, fun | n => n⟩
theorem Tryz.lays105 : Go.Proofs.Lays.n105 Tryz.prog Tryz.lays105_ren := {
 mixed := by kernel_rfl
 f99 := Tryz.func139.trans (congrArg some (by kernel_rfl))
 f105 := Tryz.func97.trans (congrArg some (by kernel_rfl))
 f165 := Tryz.func131.trans (congrArg some (by kernel_rfl))
 f166 := Tryz.func132.trans (congrArg some (by kernel_rfl))
 f169 := Tryz.func91.trans (congrArg some (by kernel_rfl))
 f170 := Tryz.func140.trans (congrArg some (by kernel_rfl))
 f206 := Tryz.func167.trans (congrArg some (by kernel_rfl))
 f212 := Tryz.func138.trans (congrArg some (by kernel_rfl))
 f240 := Tryz.func157.trans (congrArg some (by kernel_rfl))
 f241 := Tryz.func158.trans (congrArg some (by kernel_rfl))
 f263 := Tryz.func165.trans (congrArg some (by kernel_rfl))
 f264 := Tryz.func166.trans (congrArg some (by kernel_rfl))
 f276 := Tryz.func175.trans (congrArg some (by kernel_rfl))
 f277 := Tryz.func176.trans (congrArg some (by kernel_rfl))
 t0 := Tryz.underlying0
 a0 := Tryz.isAgg0
 z0 := Tryz.sizeOf0
 v0 := Tryz.zeroValue0
 t3 := Tryz.underlying3
 a3 := Tryz.isAgg3
 z3 := Tryz.sizeOf3
 v3 := Tryz.zeroValue3
 t4 := Tryz.underlying4
 a4 := Tryz.isAgg4
 z4 := Tryz.sizeOf4
 v4 := Tryz.zeroValue4
 t5 := Tryz.underlying5
 a5 := Tryz.isAgg5
 z5 := Tryz.sizeOf5
 v5 := Tryz.zeroValue5
 t9 := Tryz.underlying9
 a9 := Tryz.isAgg9
 z9 := Tryz.sizeOf9
 v9 := Tryz.zeroValue9
 t20 := Tryz.underlying20
 a20 := Tryz.isAgg20
 z20 := Tryz.sizeOf20
 v20 := Tryz.zeroValue20
 t37 := Tryz.underlying40
 a37 := Tryz.isAgg40
 z37 := Tryz.sizeOf40
 v37 := Tryz.zeroValue40
 t46 := Tryz.underlying164
 a46 := Tryz.isAgg164
 z46 := Tryz.sizeOf164
 v46 := Tryz.zeroValue164
 t51 := Tryz.underlying201
 a51 := Tryz.isAgg201
 z51 := Tryz.sizeOf201
 v51 := Tryz.zeroValue201
 t53 := Tryz.underlying130
 a53 := Tryz.isAgg130
 z53 := Tryz.sizeOf130
 v53 := Tryz.zeroValue130
 t70 := Tryz.underlying138
 a70 := Tryz.isAgg138
 z70 := Tryz.sizeOf138
 v70 := Tryz.zeroValue138
 t72 := Tryz.underlying140
 a72 := Tryz.isAgg140
 z72 := Tryz.sizeOf140
 v72 := Tryz.zeroValue140
 t75 := Tryz.underlying179
 a75 := Tryz.isAgg179
 z75 := Tryz.sizeOf179
 v75 := Tryz.zeroValue179
 t76 := Tryz.underlying180
 a76 := Tryz.isAgg180
 z76 := Tryz.sizeOf180
 v76 := Tryz.zeroValue180
 t109 := Tryz.underlying187
 a109 := Tryz.isAgg187
 z109 := Tryz.sizeOf187
 v109 := Tryz.zeroValue187
 t127 := Tryz.underlying177
 a127 := Tryz.isAgg177
 z127 := Tryz.sizeOf177
 v127 := Tryz.zeroValue177
 t146 := Tryz.underlying202
 a146 := Tryz.isAgg202
 z146 := Tryz.sizeOf202
 v146 := Tryz.zeroValue202
 t148 := Tryz.underlying204
 a148 := Tryz.isAgg204
 z148 := Tryz.sizeOf204
 v148 := Tryz.zeroValue204
 t164 := Tryz.underlying210
 a164 := Tryz.isAgg210
 z164 := Tryz.sizeOf210
 v164 := Tryz.zeroValue210 }
theorem Tryz.Builder_Extra_105 : Builder.Extra Tryz.prog Tryz.lays105_ren := {
 sizeBuilder := by kernel_rfl
 liesBuilder := by kernel_rfl
 t5 := Tryz.underlying5
 a5 := Tryz.isAgg5
 z5 := Tryz.sizeOf5
 v5 := Tryz.zeroValue5
 infoByte := by kernel_rfl
 cellsByte := by kernel_rfl
 sizeByte := by kernel_rfl
 neB5 := by decide }
open Go.RowKit Go.Lib in
theorem Tryz.strings_Repeat (s : ByteArray) (c : Nat) (w : World) (hc : c ≤ 9223372036854775807) (hlen : s.size * c ≤ 140737488355328) :
  Calls Tryz.prog 97 #[.string s, .int .i64 c] w fun e w' => e = .returned (.string ⟨(Lib.repeatL s.data.toList c).toArray⟩) ∧ Below w.heap.size w w' := Any.strings_Repeat Tryz.lays105 Tryz.Builder_Extra_105 s c w hc hlen
end Go.Proofs

namespace Go.Proofs.YtblllibdahkgfaaGreatDoor
open Go Go.RowKit Sx
theorem zhr {C : Ctx} {ρ : Rho} {F : Fz} {w : World} {m : Int} (S : Sat C ρ [[(0, .frz F)]] 1 w) (h : F 1 = some (.cells 3 [.int .i64 m])) : w.cell? ⟨1, 0, none⟩ = some (.int .i64 m) := by
 obtain ⟨o, ho, hok⟩ := S.blk 0 (.frz F) rfl 1 (by simp [Ent.has, h])
 rw [S.id0] at ho
 simp only [Ent.at, h, Option.getD_some, SB.ok] at hok
 obtain ⟨fr, _, rfl⟩ := hok
 simp [World.cell?, ho, SA.den]
theorem zez {P : Program} {F : Fz} {f : FuncId} {args : List SV} {Q Q' : Out → Fz → Prop} (h : Fo P F f args Q) (hq : ∀ o F', Q o F' → Q' o F') : Fo P F f args Q' := by
 unfold Fo at *
 refine zhy h fun o h n hc => ?_
 unfold Cln at *
 intro C ρ w e hn S hr hb
 obtain ⟨out0, F0, h0, n0, ρ0, ⟨k1, k2, k3, k4, k5⟩, r⟩ := hc C ρ w e hn S hr hb
 exact ⟨out0, F0, h0, n0, ρ0, ⟨k1, k2, k3, k4, hq _ _ k5⟩, r⟩
theorem lfun : LFun Lib.toLowerA := by
 intro F s hs h128
 refine zez (zfp (F := F) (args := [.va (.str s)]) (out := .ret (.va (.str (Lib.toLowerA s)))) (vs := [.string ⟨s.toArray⟩]) (Sx.enters_of Tryz.func94 rfl (by decide)) rfl (by
   rintro ρ vs' h
   match vs', h with
   | [v], h => rw [h.1]; rfl) (.returned (.string ⟨(Lib.toLowerA s).toArray⟩)) (fun ρ => ⟨_, rfl, rfl⟩) (fun C ρ w _ => by
   have h := Tryz.strings_ToLower_ascii ⟨s.toArray⟩ w (by show s.toArray.size ≤ _; simp; omega) (fun j b hb => h128 b (by
    have hb : s[j]? = some b := by simpa using hb
    exact List.mem_of_getElem? hb))
   simpa using h)) fun o F' h => ⟨h.2.symm, h.1⟩
theorem pre2 (a b : UInt8) (r : List UInt8) : List.isPrefixOf [32, 32] (a :: b :: r) = (a == 32 && b == 32) := by
 simp [List.isPrefixOf, Bool.beq_comm (a := (32 : UInt8))]
theorem ze7 : ∀ s : List UInt8, decide (0 ≤ Lib.index s [32, 32]) = hasD s
 | [] => by simp [Lib.index, hasD]
 | [a] => by
  simp [Lib.index, hasD, List.isPrefixOf]
 | a :: b :: r => by
  have ih := ze7 (b :: r)
  have hge := Lib.index_ge (b :: r) [32, 32]
  rw [Lib.index, pre2, hasD]
  by_cases hc : (a == 32 && b == 32) = true
  ·rw [hc]; simp
  ·rw [Bool.eq_false_iff.2 hc, Bool.false_or, ← ih]
   by_cases hm : Lib.index (b :: r) [32, 32] = -1
   ·rw [hm]; simp
   ·have : ¬ (Lib.index (b :: r) [32, 32] == -1) = true := by simpa using hm
    simp only [Bool.false_eq_true, if_false, if_neg this]
    exact decide_eq_decide.2 (by omega)
theorem zju (s : List UInt8) : Lib.contains s [32, 32] = hasD s := ze7 s
theorem dfun : DFun := by
 intro F s ⟨m, hm⟩ hs
 refine zez (zfp (F := F) (args := [.va (.str s), .va (.str [32, 32])]) (out := .ret (.va (.bool (hasD s)))) (vs := [.string ⟨s.toArray⟩, .string ⟨#[32, 32]⟩]) (Sx.enters_of Tryz.func95 rfl (by decide)) rfl (by
   rintro ρ vs' h
   match vs', h with
   | [v, u], h => rw [h.1, h.2.1]; rfl) (.returned (.bool (hasD s))) (fun ρ => ⟨_, rfl, rfl⟩) (fun C ρ w S => by
   have h := Tryz.strings_Contains ⟨s.toArray⟩ ⟨#[32, 32]⟩ m w (by show s.toArray.size < _; simp; omega) (zhr S hm)
   refine h.mono fun e w' ⟨h1, h2⟩ => ⟨?_, h2 ▸ Below.refl _ _⟩
   rw [h1, ← zju])) fun o F' h => ⟨h.2.symm, h.1⟩
theorem zpz : ∀ {s : List UInt8}, Lib.index s [32, 32] = -1 → repD s = s
 | [], _ => rfl
 | [a], _ => rfl
 | a :: b :: r, h => by
  have hd := ze7 (a :: b :: r)
  rw [h, hasD] at hd
  have hd' := hd.symm
  rw [show decide ((0 : Int) ≤ -1) = false from rfl, Bool.or_eq_false_iff] at hd'
  have hge := Lib.index_ge (b :: r) [32, 32]
  have h2 : Lib.index (b :: r) [32, 32] = -1 := by
   have := ze7 (b :: r)
   rw [hd'.2] at this
   have := of_decide_eq_false this
   omega
  rw [repD, if_neg (by rw [hd'.1]; simp), zpz h2]
theorem zqw : ∀ {s : List UInt8} {i : Nat}, Lib.index s [32, 32] = i → repD s = s.take i ++ [32] ++ repD (s.drop (i + 2))
 | [], i, h => by simp [Lib.index] at h
 | [a], i, h => by simp [Lib.index, List.isPrefixOf] at h
 | a :: b :: r, i, h => by
  rw [Lib.index, pre2] at h
  rw [repD]
  by_cases hc : (a == 32 && b == 32) = true
  ·rw [hc] at h
   simp only [if_true] at h
   have : i = 0 := by omega
   subst this
   rw [if_pos hc]; rfl
  ·rw [Bool.eq_false_iff.2 hc] at h
   simp only [Bool.false_eq_true, if_false] at h
   have hge := Lib.index_ge (b :: r) [32, 32]
   by_cases hm : Lib.index (b :: r) [32, 32] = -1
   ·rw [hm] at h; simp at h
   ·have hm' : ¬ (Lib.index (b :: r) [32, 32] == -1) = true := by simpa using hm
    rw [if_neg hm'] at h
    obtain ⟨j, rfl⟩ : ∃ j, i = j + 1 := ⟨i - 1, by omega⟩
    rw [if_neg hc, zqw (s := b :: r) (i := j) (by omega)]
    rfl
theorem zdh : ∀ (f : Nat) (s : List UInt8), s.length ≤ f → Lib.countFrom [32, 32] f s = Lib.countFrom [32, 32] s.length s
 | 0, s, h => by rw [List.eq_nil_of_length_eq_zero (by omega : s.length = 0)]; rfl
 | f + 1, s, h => by
  have hge := Lib.index_ge s [32, 32]
  rw [Lib.countFrom]
  by_cases hm : (Lib.index s [32, 32] == -1) = true
  ·rw [if_pos hm]
   cases hl : s.length with
   | zero => rfl
   | succ n => rw [Lib.countFrom, if_pos hm]
  ·rw [if_neg hm]
   have hroom := Lib.index_room s [32, 32] (by have : ¬ Lib.index s [32, 32] = -1 := by simpa using hm
                                               omega)
   simp only [List.length_cons, List.length_nil] at hroom
   obtain ⟨n, hn⟩ : ∃ n, s.length = n + 1 := ⟨s.length - 1, by omega⟩
   rw [hn, Lib.countFrom, if_neg hm, zdh f _ (by rw [List.length_drop]; simp only [List.length_cons, List.length_nil]; omega),
    zdh n _ (by rw [List.length_drop]; simp only [List.length_cons, List.length_nil]; omega)]
theorem zgp : ∀ (n : Nat) (s : List UInt8) (k : Nat), s.length ≤ n → Lib.countFrom [32, 32] s.length s ≤ k → Lib.replaceK [32, 32] [32] k s = repD s
 | n, s, k, hn, hk => by
  have hge := Lib.index_ge s [32, 32]
  by_cases hm : Lib.index s [32, 32] = -1
  ·rw [zpz hm]
   cases k with
   | zero => rfl
   | succ k => rw [Lib.replaceK, if_pos (by simpa using hm)]
  ·have hroom := Lib.index_room s [32, 32] (by omega)
   simp only [List.length_cons, List.length_nil] at hroom
   obtain ⟨l, hl⟩ : ∃ l, s.length = l + 1 := ⟨s.length - 1, by omega⟩
   have hm' : ¬ (Lib.index s [32, 32] == -1) = true := by simpa using hm
   obtain ⟨i, hi⟩ : ∃ i : Nat, Lib.index s [32, 32] = i := ⟨(Lib.index s [32, 32]).toNat, by omega⟩
   rw [hl, Lib.countFrom, if_neg hm'] at hk
   cases k with
   | zero => omega
   | succ k =>
    cases n with
    | zero => omega
    | succ n =>
     rw [Lib.replaceK, if_neg hm', zqw hi, hi]
     simp only [List.length_cons, List.length_nil, Nat.reduceAdd, Int.toNat_natCast]
     rw [hi] at hk
     simp only [List.length_cons, List.length_nil, Nat.reduceAdd, Int.toNat_natCast] at hk
     rw [zgp n (s.drop (i + 2)) k (by rw [List.length_drop]; omega) (by
      rw [zdh l _ (by rw [List.length_drop]; omega)] at hk; omega)]
theorem zhs (s : List UInt8) : Lib.replaceAll s [32, 32] [32] = repD s := by
 unfold Lib.replaceAll Lib.replace
 rw [if_neg (by decide)]
 refine zgp s.length s _ (Nat.le_refl _) ?_
 rw [Lib.replaceNum, if_pos (.inl (by decide)), Lib.count, zdh (s.length + 1) s (by omega)]
 exact Nat.le_refl _
theorem afun : AFun := by
 intro F s ⟨m, hm⟩ hs
 refine zez (zfp (F := F) (args := [.va (.str s), .va (.str [32, 32]), .va (.str [32])]) (out := .ret (.va (.str (repD s)))) (vs := [.string ⟨s.toArray⟩, .string ⟨#[32, 32]⟩, .string ⟨#[32]⟩]) (Sx.enters_of Tryz.func96 rfl (by decide)) rfl (by
   rintro ρ vs' h
   match vs', h with
   | [v, u, t], h => rw [h.1, h.2.1, h.2.2.1]; rfl) (.returned (.string ⟨(repD s).toArray⟩)) (fun ρ => ⟨_, rfl, rfl⟩) (fun C ρ w S => by
   have h := Tryz.strings_ReplaceAll ⟨s.toArray⟩ ⟨#[32, 32]⟩ ⟨#[32]⟩ m w (by show s.toArray.size < _; simp; omega) (zhr S hm) (by decide) (by
    have hcb := Lib.countB_mul_le ⟨#[32, 32]⟩ (by decide) _ ⟨s.toArray⟩ (Nat.le_refl _)
    have e1 : (⟨#[32, 32]⟩ : ByteArray).size = 2 := rfl
    have e2 : (⟨#[32]⟩ : ByteArray).size = 1 := rfl
    have e3 : (⟨s.toArray⟩ : ByteArray).size = s.length := by show s.toArray.size = _; simp
    rw [e1, e3] at hcb
    rw [e2, e3]
    omega)
   refine h.mono fun e w' ⟨h1, h2⟩ => ⟨?_, h2⟩
   rw [h1, ← zhs])) fun o F' h => ⟨h.2.symm, h.1⟩
theorem zit : ∀ n : Nat, Lib.repeatL [48] n = List.replicate n 48
 | 0 => rfl
 | n + 1 => by rw [Lib.repeatL, zit n, List.replicate_succ]; rfl
theorem nfun : NFun := by
 intro F n hn
 refine zez (zfp (F := F) (args := [.va (.str [48]), .va (.int .i64 n)]) (out := .ret (.va (.str (List.replicate n 48)))) (vs := [.string ⟨#[48]⟩, .int .i64 n]) (Sx.enters_of Tryz.func97 rfl (by decide)) rfl (by
   rintro ρ vs' h
   match vs', h with
   | [v, u], h => rw [h.1, h.2.1]; rfl) (.returned (.string ⟨(List.replicate n 48).toArray⟩)) (fun ρ => ⟨_, rfl, rfl⟩) (fun C ρ w S => by
   have h := Tryz.strings_Repeat ⟨#[48]⟩ n w (by omega) (by show 1 * n ≤ _; omega)
   refine h.mono fun e w' ⟨h1, h2⟩ => ⟨?_, h2⟩
   rw [h1, ← zit])) fun o F' h => ⟨h.2.symm, h.1⟩
theorem zug (s : List UInt8) : Lib.trimS s [48, 49] = [] ↔ s.all (fun b => b == 48 || b == 49) = true := by
 have hc : ∀ b : UInt8, [48, 49].contains b = (b == 48 || b == 49) := fun b => by
  simp [List.contains, List.elem]
  cases h1 : (b == 48) <;> cases h2 : (b == 49) <;> rfl
 have dw : ∀ l : List UInt8, l.dropWhile ([48, 49].contains ·) = [] ↔ l.all (fun b => b == 48 || b == 49) = true := by
  intro l
  induction l with
  | nil => simp
  | cons a r ih =>
   rw [List.dropWhile_cons, List.all_cons, hc]
   cases h : (a == 48 || a == 49) with
   | true => simpa using ih
   | false => simp
 unfold Lib.trimS Lib.trimLeftS Lib.trimRightS
 rw [dw, List.all_reverse]
 constructor
 ·intro h
  have h1 : s.reverse.all (fun b => b == 48 || b == 49) = true := by
   rw [← List.takeWhile_append_dropWhile (p := ([48, 49].contains ·)) (l := s.reverse), List.all_append, h, Bool.and_true]
   refine List.all_eq_true.2 fun b hb => ?_
   have h2 := List.all_eq_true.1 (List.all_takeWhile (p := ([48, 49].contains ·)) (l := s.reverse)) b hb
   rw [← hc]; exact h2
  rwa [List.all_reverse] at h1
 ·intro h
  rw [(dw s.reverse).2 (by rw [List.all_reverse]; exact h)]; rfl
theorem tfun : TFun := by
 intro F s hs
 refine zez (zfp (F := F) (args := [.va (.str s), .va (.str [48, 49])]) (out := .ret (.va (.str (Lib.trimS s [48, 49])))) (vs := [.string ⟨s.toArray⟩, .string ⟨#[48, 49]⟩]) (Sx.enters_of Tryz.func77 rfl (by decide)) rfl (by
   rintro ρ vs' h
   match vs', h with
   | [v, u], h => rw [h.1, h.2.1]; rfl) (.returned (.string ⟨(Lib.trimS s [48, 49]).toArray⟩)) (fun ρ => ⟨_, rfl, rfl⟩) (fun C ρ w S => by
   have h := Any.strings_Trim_laid Tryz.lays160 (by kernel_rfl) ⟨s.toArray⟩ ⟨#[48, 49]⟩ w (by show s.toArray.size ≤ _; simp; omega) (by decide) (ascii_of_all (by decide))
   refine h.mono fun e w' ⟨h1, h2⟩ => ⟨?_, h2⟩
   rw [h1])) fun o F' h => ⟨h.2.symm, _, h.1, zug s⟩
def badR (r : Nat) : Bool := !(decide (32 ≤ r) && decide (r ≤ 126))
theorem zu3 (w : World) : PredAtRunes Tryz.prog 108 #[] badR w := by
 intro W x hx hb
 unfold FnGives
 have e : IntKind.i64.wrap (x : Int) = x := by rw [IntKind.wrap_i64]; omega
 go_enter Tryz.func108, Tryz.ntmps108
 by_cases h1 : 32 ≤ x
 ·by_cases h2 : x ≤ 126
  ·go_wp2
   all_goals go_ret
   all_goals refine ⟨?_, 0, rfl⟩
   all_goals (simp [badR, h1, h2]; try omega)
  ·go_wp2
   all_goals go_ret
   all_goals refine ⟨?_, 0, rfl⟩
   all_goals (simp [badR, h1, h2]; try omega)
 ·go_wp2
  all_goals go_ret
  all_goals refine ⟨?_, 0, rfl⟩
  all_goals (simp [badR, h1]; try omega)
theorem zo6 (s : List UInt8) : ∀ (f pos : Nat), s.length ≤ pos + f → decide (0 ≤ Lib.idxFuncFrom badR true ⟨s.toArray⟩ f pos) = (s.drop pos).any badC
 | 0, pos, h => by rw [List.drop_eq_nil_of_le (by omega)]; rfl
 | f + 1, pos, h => by
  have hsz : (⟨s.toArray⟩ : ByteArray).size = s.length := by show s.toArray.size = _; simp
  rw [Lib.idxFuncFrom, hsz]
  by_cases hp : pos < s.length
  ·rw [if_pos hp, List.drop_eq_getElem_cons hp, List.any_cons]
   have hge : ((⟨s.toArray⟩ : ByteArray)[pos]'(by rw [hsz]; exact hp)) = s[pos] := by simp [ByteArray.getElem_eq_getElem_data]
   by_cases ha : (s[pos]).toNat < 128
   ·rw [decode_ascii ⟨s.toArray⟩ pos (by rw [hsz]; exact hp) (by rw [hge]; exact ha), hge]
    have e : badR (s[pos]).toNat = badC s[pos] := rfl
    cases hbc : badC s[pos] with
    | true => rw [if_pos (by rw [e, hbc])]; simp
    | false => rw [if_neg (by rw [e, hbc]; simp), Bool.false_or]; exact zo6 s f (pos + 1) (by omega)
   ·have hd := decode_high ⟨s.toArray⟩ pos (by rw [hsz]; exact hp) (by rw [hge]; omega)
    have hb1 : badR (Utf8.decode ⟨s.toArray⟩ pos).1 = true := by
     unfold badR; have : ¬ (Utf8.decode ⟨s.toArray⟩ pos).1 ≤ 126 := by omega
     simp [this]
    have hb2 : badC s[pos] = true := by
     unfold badC; have : ¬ (s[pos]).toNat ≤ 126 := by omega
     simp [this]
    rw [if_pos hb1, hb2]; simp
  ·rw [if_neg hp, List.drop_eq_nil_of_le (by omega)]; rfl
theorem cfun : CFun := by
 intro F s hs
 refine zez (zfp (F := F) (args := [.va (.str s), .va (.fn (.func 108) [])]) (out := .ret (.va (.bool (s.any badC)))) (vs := [.string ⟨s.toArray⟩, .func (.func 108) #[] #[]]) (Sx.enters_of Tryz.func107 rfl (by decide)) rfl (by
   rintro ρ vs' h
   match vs', h with
   | [v, u], h => rw [h.1, h.2.1]; rfl) (.returned (.bool (s.any badC))) (fun ρ => ⟨_, rfl, rfl⟩) (fun C ρ w S => by
   have h := Any.strings_ContainsFunc_runes Tryz.laysGw17 108 #[] (enters_of Tryz.func108 (by kernel_rfl) rfl) badR ⟨s.toArray⟩ w (zu3 w)
   refine h.mono fun e w' ⟨h1, h2⟩ => ⟨?_, h2⟩
   rw [h1, Lib.idxFunc, zo6 s _ 0 (by show s.length ≤ 0 + s.toArray.size; simp), List.drop_zero])) fun o F' h => ⟨h.1, h.2⟩
end Go.Proofs.YtblllibdahkgfaaGreatDoor

namespace Go.Proofs.YtblllibdahkgfaaGreatDoor
open Go Go.RowKit Sx
theorem zl6 (p q : Addr) (w : World) :
  CallsD Tryz.prog 50 #[.pointer (some p), .pointer (some q)] .returning w fun e u' w' => e = .returned (.tuple #[]) ∧ u' = .returning ∧ w' = w := by
 refine callsD_of_wpS Tryz.func50 rfl fun c₀ cs hu => ?_
 simp only [Tryz.ntmps50, List.size_toArray, List.length_cons, List.length_nil, Nat.reduceAdd, Nat.reduceSub, Array.replicate_succ, Array.replicate_zero, List.push_toArray, List.append_toArray, List.nil_append, List.cons_append]
 apply wpS_seq
 apply wpS_region
 simp [wpOpsS, go_sem, recoverD, hu, Exit.thenS]
 refine wpS_of_wp ?_
 go_wp2
 refine ⟨rfl, .returning, by cases c₀; simp_all, _, results_none rfl _ _ _, rfl, rfl, rfl⟩
theorem as29 (v : Value) (w : World) : (Instr.typeAssert (.iface 29 v) 20 29 true).run Tryz.prog w = .ok (.tuple #[v, .bool true]) w := by kernel_rfl
set_option maxRecDepth 100000 in
theorem zo1 (p q : Addr) (n : Int) (w : World) (u v : Value) (hp : w.cell? p = some u) (fp : w.frozen? p = false) (hq : (w.setCell p (.string ⟨#[]⟩)).cell? q = some v) (fq : (w.setCell p (.string ⟨#[]⟩)).frozen? q = false) :
  CallsD Tryz.prog 50 #[.pointer (some p), .pointer (some q)] (.panicking [{ v := .iface 29 (.int .i64 n), recovered := false }]) w fun e u' w' => e = .returned (.tuple #[]) ∧ settle u' = .returning ∧ w' = (w.setCell p (.string ⟨#[]⟩)).setCell q (.int .i64 n) := by
 refine callsD_of_wpS Tryz.func50 rfl fun c₀ cs hu => ?_
 simp only [Tryz.ntmps50, List.size_toArray, List.length_cons, List.length_nil, Nat.reduceAdd, Nat.reduceSub, Array.replicate_succ, Array.replicate_zero, List.push_toArray, List.append_toArray, List.nil_append, List.cons_append]
 apply wpS_seq
 apply wpS_region
 simp [wpOpsS, go_sem, recoverD, hu, Exit.thenS]
 refine wpS_of_wp ?_
 have has := as29 (.int .i64 n) w
 rw [World.frozen?_setCell] at fq
 go_wp2
 exact ⟨rfl, _, rfl, _, results_none rfl _ _ _, rfl, by simp [settle], rfl⟩
theorem one_cell {C : Ctx} {ρ : Rho} {h : Hp} {nx : Nat} {w : World} {i t : Nat} {a : SA} (S : Sat C ρ h nx w) (hi : lget h i = some (.one (.cells t [a]))) : w.cell? ⟨ρ i 0, 0, none⟩ = some (a.den ρ) ∧ w.frozen? ⟨ρ i 0, 0, none⟩ = false := by
 obtain ⟨o, ho, hok⟩ := S.blk i _ hi 0 rfl
 have hr : RowAt w (ρ i 0) t [a.den ρ] := ⟨o, ho, hok⟩
 exact ⟨by rw [hr.cell 0]; rfl, hr.free 0 (by simp)⟩
theorem zm2 {h : Hp} {nx : Nat} {K : Hp → Nat → Prop} (i j : Nat) (hk : K h nx) : DefWP Tryz.prog 50 [.ptr ⟨i, 0, 0, 0, 0⟩, .ptr ⟨j, 0, 0, 0, 0⟩] h nx none K := by
 unfold DefWP
 intro C ρ w S hb
 refine ⟨Sx.enters_of Tryz.func50 rfl (by decide), ?_⟩
 refine (zl6 ⟨ρ i 0, 0 * 0 + 0, none⟩ ⟨ρ j 0, 0 * 0 + 0, none⟩ w).mono ?_
 rintro e u' w' ⟨rfl, rfl, rfl⟩
 exact ⟨_, h, nx, ρ, rfl, rfl, hk, S, fun _ _ => rfl, Nat.le_refl _⟩
theorem zh1 {h : Hp} {nx : Nat} {K : Hp → Nat → Prop} (i j : Nat) (s0 : List UInt8) (e0 : Int) (hi : lget h i = some (.one (.cells 9 [.str s0]))) (hj : lget h j = some (.one (.cells 29 [.int .i64 e0]))) (hij : ¬ i = j)
  (hs : zg9 Θ 9 (.va (.ptr ⟨i, 0, 0, 0, 0⟩)) (.va (.str [])) h nx fun _ h1 _ => zg9 Θ 29 (.va (.ptr ⟨j, 0, 0, 0, 0⟩)) (.va (.int .i64 70)) h1 nx fun _ h2 _ => K h2 nx) :
  DefWP Tryz.prog 50 [.ptr ⟨i, 0, 0, 0, 0⟩, .ptr ⟨j, 0, 0, 0, 0⟩] h nx (some perr) K := by
 unfold DefWP
 intro C ρ w S hb
 refine ⟨Sx.enters_of Tryz.func50 rfl (by decide), ?_⟩
 obtain ⟨p1, p2⟩ := one_cell S hi
 obtain ⟨q1, q2⟩ := one_cell S hj
 have hne : ρ i 0 ≠ ρ j 0 := fun e => hij (S.inj i 0 j 0 ⟨_, hi, rfl⟩ ⟨_, hj, rfl⟩ e).1
 have q3 : (w.setCell ⟨ρ i 0, 0, none⟩ (.string ⟨#[]⟩)).cell? ⟨ρ j 0, 0, none⟩ = some (.int .i64 e0) := by
  rw [World.cell?_setCell_other _ _ _ _ (by simp [hne])]; exact q1
 have q4 : (w.setCell ⟨ρ i 0, 0, none⟩ (.string ⟨#[]⟩)).frozen? ⟨ρ j 0, 0, none⟩ = false := by
  rw [World.frozen?_setCell]; exact q2
 obtain ⟨w1, h1, r1, k1, S1⟩ := zf6 hΘ hs S (v := .pointer (some ⟨ρ i 0, 0 * 0 + 0, none⟩)) (u := .string ⟨#[]⟩) rfl rfl trivial
 obtain ⟨w2, h2, r2, k2, S2⟩ := zf6 hΘ k1 S1 (v := .pointer (some ⟨ρ j 0, 0 * 0 + 0, none⟩)) (u := .int .i64 70) rfl rfl trivial
 have e1 : (Instr.storeAt 9 (.pointer (some ⟨ρ i 0, 0, none⟩)) (.string ⟨#[]⟩)).run Tryz.prog w = .ok () (w.setCell ⟨ρ i 0, 0, none⟩ (.string ⟨#[]⟩)) := by
  simp [go_sem, p1, p2]
 have e2 : (Instr.storeAt 29 (.pointer (some ⟨ρ j 0, 0, none⟩)) (.int .i64 70)).run Tryz.prog (w.setCell ⟨ρ i 0, 0, none⟩ (.string ⟨#[]⟩)) = .ok () ((w.setCell ⟨ρ i 0, 0, none⟩ (.string ⟨#[]⟩)).setCell ⟨ρ j 0, 0, none⟩ (.int .i64 70)) := by
  simp [go_sem, q2, q3]
 have w1e : w.setCell ⟨ρ i 0, 0, none⟩ (.string ⟨#[]⟩) = w1 := by have := e1.symm.trans r1; cases this; rfl
 rw [w1e] at e2
 have w2e : w1.setCell ⟨ρ j 0, 0, none⟩ (.int .i64 70) = w2 := by have := e2.symm.trans r2; cases this; rfl
 refine (zo1 ⟨ρ i 0, 0 * 0 + 0, none⟩ ⟨ρ j 0, 0 * 0 + 0, none⟩ 70 w _ _ p1 p2 q3 q4).mono ?_
 rintro e u' w' ⟨rfl, hu, rfl⟩
 refine ⟨_, h2, nx, ρ, rfl, hu, k2, ?_, fun _ _ => rfl, Nat.le_refl _⟩
 show Sat C ρ h2 nx ((w.setCell ⟨ρ i 0, 0, none⟩ (.string ⟨#[]⟩)).setCell ⟨ρ j 0, 0, none⟩ (.int .i64 70))
 rw [w1e, w2e]; exact S2
end Go.Proofs.YtblllibdahkgfaaGreatDoor

namespace Go.Proofs.YtblllibdahkgfaaGreatDoor
open Go Sx
def zdw (p : Int) : List Int → List Int → Prop
 | _, [] => True
 | acc, x :: r => ((bnd p acc).1 ≤ x ∧ x ≤ (bnd p acc).2) ∧ zdw p (acc ++ [x]) r
def lnOk (p : Int) (before : List Ln) (x : Ln) : Prop :=
 if p = 1 then x.2 = [] ∧ x.1.length ≤ 80 ∧ x.1.any badC = false
 else x.1 = [] ∧ x.2.length = cols p ∧ zdw p [] x.2 ∧ (p ≠ 2 → ∀ y, before.getLast? = some y → cmpL (y.2.take 2) (x.2.take 2) < 0)
def lnsOk (p : Int) : List Ln → List Ln → Prop
 | _, [] => True
 | acc, x :: r => lnOk p acc x ∧ lnsOk p (acc ++ [x]) r
def VOK (p : Int) (v : Val) : Prop :=
 v = loseV ∨ (v.lost = false ∧
  if p = 8 then v.lines = [] ∧ v.bits = [] ∧ (0 ≤ v.w ∧ v.w ≤ 64) ∧ (0 ≤ v.h ∧ v.h ≤ 64)
  else if 6 ≤ p then v.lines = [] ∧ (0 ≤ v.w ∧ v.w ≤ 32) ∧ (min v.w 1 ≤ v.h ∧ v.h ≤ min v.w 1 * 32) ∧ (if p = 7 then (v.bits.length : Int) = v.w * v.h ∧ v.bits.all (fun b => b == 48 || b == 49) = true else v.bits = [])
  else v.w = 0 ∧ v.h = 0 ∧ v.bits = [] ∧ v.lines.length ≤ 64 ∧ lnsOk p [] v.lines)
theorem zaz {s : List UInt8} {q lo hi : Int} : zbb s q lo hi = true ↔ (getI s q).2.2 = 0 ∧ lo ≤ (getI s q).1 ∧ (getI s q).1 ≤ hi := by
 unfold zbb; simp
theorem zlp {s : List UInt8} {p : Int} : ∀ (f : Nat) (acc : List Int) (q : Int) (n : List Int) (q' : Int), numsS s p f acc q = some (n, q') → ∃ m, n = acc ++ m ∧ m.length = f ∧ zdw p acc m
 | 0, acc, q, n, q', h => by
  simp only [numsS, Option.some.injEq, Prod.mk.injEq] at h
  exact ⟨[], by simp [h.1], rfl, trivial⟩
 | f + 1, acc, q, n, q', h => by
  rw [numsS] at h
  split at h
  ·rename_i hn
   obtain ⟨m, h1, h2, h3⟩ := zlp f _ _ _ _ h
   exact ⟨(getI s q).1 :: m, by rw [h1]; simp, by rw [List.length_cons, h2], (zaz.1 hn).2, h3⟩
  ·cases h
theorem zpk {s : List UInt8} {p : Int} {acc : List Ln} {q q' : Int} {x : Ln} (h : lineS s p acc q = some (x, q')) : lnOk p acc x := by
 unfold lineS at h
 unfold lnOk
 split at h
 ·rename_i hp
  rw [if_pos hp]
  split at h
  ·rename_i hc
   simp only [Option.some.injEq, Prod.mk.injEq] at h
   obtain ⟨rfl, _⟩ := h
   exact ⟨rfl, hc.2.1, hc.2.2⟩
  ·cases h
 ·rename_i hp
  rw [if_neg hp]
  split at h
  ·cases h
  ·rename_i n q2 hn
   obtain ⟨m, h1, h2, h3⟩ := zlp _ _ _ _ _ hn
   rw [List.nil_append] at h1
   subst h1
   split at h
   ·rename_i hp2
    simp only [Option.some.injEq, Prod.mk.injEq] at h
    obtain ⟨rfl, _⟩ := h
    exact ⟨rfl, h2, h3, fun hc => absurd hp2 hc⟩
   ·split at h
    ·rename_i hl
     simp only [Option.some.injEq, Prod.mk.injEq] at h
     obtain ⟨rfl, _⟩ := h
     exact ⟨rfl, h2, h3, fun _ y hy => by rw [hl] at hy; cases hy⟩
    ·rename_i x hl
     split at h
     ·rename_i hc
      simp only [Option.some.injEq, Prod.mk.injEq] at h
      obtain ⟨rfl, _⟩ := h
      exact ⟨rfl, h2, h3, fun _ y hy => by rw [hl] at hy; cases hy; exact hc⟩
     ·cases h
theorem zi6 {s : List UInt8} {p : Int} : ∀ (f : Nat) (acc : List Ln) (q : Int) (l : List Ln) (q' : Int), zb6 s p f acc q = some (l, q') → ∃ m, l = acc ++ m ∧ m.length = f ∧ lnsOk p acc m
 | 0, acc, q, n, q', h => by
  simp only [zb6, Option.some.injEq, Prod.mk.injEq] at h
  exact ⟨[], by simp [h.1], rfl, trivial⟩
 | f + 1, acc, q, n, q', h => by
  rw [zb6] at h
  split at h
  ·cases h
  ·rename_i x q2 hx
   obtain ⟨m, h1, h2, h3⟩ := zi6 f _ _ _ _ h
   exact ⟨x :: m, by rw [h1]; simp, by rw [List.length_cons, h2], zpk hx, h3⟩
theorem zj1 {p : Int} {s : List UInt8} {v : Val} (h : readS p s = some v) : (1 ≤ p ∧ p ≤ 8) ∧ VOK p v := by
 unfold readS at h
 split at h
 ·cases h
 rename_i hp
 have hp : 1 ≤ p ∧ p ≤ 8 := by simpa using hp
 refine ⟨hp, ?_⟩
 split at h
 ·cases h; exact .inl rfl
 right
 split at h
 ·rename_i h8
  split at h
  ·rename_i hc
   cases h
   refine ⟨rfl, ?_⟩
   rw [if_pos h8]
   exact ⟨rfl, rfl, (zaz.1 hc.1).2, (zaz.1 hc.2.1).2⟩
  ·cases h
 rename_i h8
 split at h
 ·rename_i h6
  dsimp only at h
  split at h
  ·rename_i hc
   split at h
   ·rename_i h7
    split at h
    ·rename_i hb
     cases h
     refine ⟨rfl, ?_⟩
     rw [if_neg h8, if_pos h6]
     refine ⟨rfl, (zaz.1 hc.1).2, (zaz.1 hc.2).2, ?_⟩
     rw [if_pos h7]
     exact ⟨hb.2.1, hb.2.2.1⟩
    ·cases h
   ·rename_i h7
    split at h
    ·cases h
     refine ⟨rfl, ?_⟩
     rw [if_neg h8, if_pos h6]
     refine ⟨rfl, (zaz.1 hc.1).2, (zaz.1 hc.2).2, ?_⟩
     rw [if_neg h7]
    ·cases h
  ·cases h
 ·rename_i h6
  split at h
  ·rename_i hc
   split at h
   ·cases h
   ·rename_i l q hl
    split at h
    ·cases h
     refine ⟨rfl, ?_⟩
     rw [if_neg h8, if_neg h6]
     obtain ⟨m, h1, h2, h3⟩ := zi6 _ _ _ _ _ hl
     rw [List.nil_append] at h1
     subst h1
     have hr := (zaz.1 hc).2
     exact ⟨rfl, rfl, rfl, by rw [h2]; omega, h3⟩
    ·cases h
  ·cases h
end Go.Proofs.YtblllibdahkgfaaGreatDoor
