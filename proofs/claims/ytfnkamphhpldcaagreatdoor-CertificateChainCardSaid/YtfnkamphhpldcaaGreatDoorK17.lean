import Derived.Shelf.Strings.OnBuilder
import Derived.Shelf.Strings.Trim
import Derived.Shelf.Strings.Search3
import Derived.Ground.GgwProg
import Derived.Shelf.GgClosure.StringsIndexFuncTop
import Derived.Shelf.Strings.Replace
import Derived.Shelf.Strings.Repeat
import Derived.Test.YtfnkamphhpldcaaGreatDoorProg
import Derived.Test.YtfnkamphhpldcaaGreatDoorK14
set_option maxHeartbeats 64000000
namespace Go.Proofs
open Go.Shelf Tryz
def Tryz.lays159_ren:Go.Shelf.Ren:=⟨fun | 159=>247 | 165=>257 | 166=>224 | 167=>264 | 169=>104 | 230=>265 | 204=>266 | 240=>256 | 241=>273 | 197=>260 | 118=>278 | 168=>279 | 270=>280 | 262=>281 | 276=>272 | 277=>287 | 260=>274 | 242=>292 | 313=>293 | 278=>298 | 274=>299 | 275=>300 | n=>n,fun | 9=>9 | 4=>4 | 3=>3 | 5=>5 | 72=>172 | 0=>0 | 76=>281 | 75=>125 | 107=>329 | 70=>170 | 20=>20 | 37=>81 | 127=>238 | 21=>21 | 105=>323 | 164=>334 | 162=>353 | 203=>351 | 119=>345 | 46=>220 | 139=>348 | 138=>347 | 51=>231 | 160=>355 | 208=>362 | 206=>360 | 80=>155 | n=>n,fun | 13=>3 | 3=>1 | 4=>2 | n=>n⟩
theorem Tryz.lays159:Go.Proofs.Lays.n159 prog Tryz.lays159_ren:={
 mixed:=by kernel_rfl
 f118:=func278.trans (congrArg some (by kernel_rfl))
 f159:=func247.trans (congrArg some (by kernel_rfl))
 f165:=func257.trans (congrArg some (by kernel_rfl))
 f166:=func224.trans (congrArg some (by kernel_rfl))
 f167:=func264.trans (congrArg some (by kernel_rfl))
 f168:=func279.trans (congrArg some (by kernel_rfl))
 f169:=func104.trans (congrArg some (by kernel_rfl))
 f197:=func260.trans (congrArg some (by kernel_rfl))
 f204:=func266.trans (congrArg some (by kernel_rfl))
 f230:=func265.trans (congrArg some (by kernel_rfl))
 f240:=func256.trans (congrArg some (by kernel_rfl))
 f241:=func273.trans (congrArg some (by kernel_rfl))
 f242:=func292.trans (congrArg some (by kernel_rfl))
 f260:=func274.trans (congrArg some (by kernel_rfl))
 f262:=func281.trans (congrArg some (by kernel_rfl))
 f270:=func280.trans (congrArg some (by kernel_rfl))
 f274:=func299.trans (congrArg some (by kernel_rfl))
 f275:=func300.trans (congrArg some (by kernel_rfl))
 f276:=func272.trans (congrArg some (by kernel_rfl))
 f277:=func287.trans (congrArg some (by kernel_rfl))
 f278:=func298.trans (congrArg some (by kernel_rfl))
 f313:=func293.trans (congrArg some (by kernel_rfl))
 t0:=underlying0
 a0:=Tryz.isAgg0
 z0:=Tryz.sizeOf0
 v0:=Tryz.zeroValue0
 t3:=underlying3
 a3:=Tryz.isAgg3
 z3:=Tryz.sizeOf3
 v3:=Tryz.zeroValue3
 t4:=underlying4
 a4:=Tryz.isAgg4
 z4:=Tryz.sizeOf4
 v4:=Tryz.zeroValue4
 t5:=underlying5
 a5:=Tryz.isAgg5
 z5:=Tryz.sizeOf5
 v5:=Tryz.zeroValue5
 t9:=underlying9
 a9:=Tryz.isAgg9
 z9:=Tryz.sizeOf9
 v9:=Tryz.zeroValue9
 t20:=underlying20
 a20:=Tryz.isAgg20
 z20:=Tryz.sizeOf20
 v20:=Tryz.zeroValue20
 t21:=underlying21
 a21:=Tryz.isAgg21
 z21:=Tryz.sizeOf21
 v21:=Tryz.zeroValue21
 t37:=underlying81
 a37:=Tryz.isAgg81
 z37:=Tryz.sizeOf81
 v37:=Tryz.zeroValue81
 t46:=underlying220
 a46:=Tryz.isAgg220
 z46:=Tryz.sizeOf220
 v46:=Tryz.zeroValue220
 t51:=underlying231
 a51:=Tryz.isAgg231
 z51:=Tryz.sizeOf231
 v51:=Tryz.zeroValue231
 t70:=underlying170
 a70:=Tryz.isAgg170
 z70:=Tryz.sizeOf170
 v70:=Tryz.zeroValue170
 t72:=underlying172
 a72:=Tryz.isAgg172
 z72:=Tryz.sizeOf172
 v72:=Tryz.zeroValue172
 t75:=underlying125
 a75:=Tryz.isAgg125
 z75:=Tryz.sizeOf125
 v75:=Tryz.zeroValue125
 t76:=underlying281
 a76:=Tryz.isAgg281
 z76:=Tryz.sizeOf281
 v76:=Tryz.zeroValue281
 t105:=underlying323
 a105:=Tryz.isAgg323
 z105:=Tryz.sizeOf323
 v105:=Tryz.zeroValue323
 t107:=underlying329
 a107:=Tryz.isAgg329
 z107:=Tryz.sizeOf329
 v107:=Tryz.zeroValue329
 t119:=underlying345
 a119:=Tryz.isAgg345
 z119:=Tryz.sizeOf345
 t127:=underlying238
 a127:=Tryz.isAgg238
 z127:=Tryz.sizeOf238
 v127:=Tryz.zeroValue238
 t138:=underlying347
 a138:=Tryz.isAgg347
 z138:=Tryz.sizeOf347
 v138:=Tryz.zeroValue347
 t139:=underlying348
 a139:=Tryz.isAgg348
 z139:=Tryz.sizeOf348
 v139:=Tryz.zeroValue348
 t160:=underlying355
 a160:=Tryz.isAgg355
 z160:=Tryz.sizeOf355
 v160:=Tryz.zeroValue355
 t162:=underlying353
 a162:=Tryz.isAgg353
 z162:=Tryz.sizeOf353
 v162:=Tryz.zeroValue353
 t164:=underlying334
 a164:=Tryz.isAgg334
 z164:=Tryz.sizeOf334
 v164:=Tryz.zeroValue334
 t203:=underlying351
 a203:=Tryz.isAgg351
 z203:=Tryz.sizeOf351
 v203:=Tryz.zeroValue351
 t206:=underlying360
 a206:=Tryz.isAgg360
 z206:=Tryz.sizeOf360
 v206:=Tryz.zeroValue360
 t208:=underlying362
 a208:=Tryz.isAgg362
 z208:=Tryz.sizeOf362
 v208:=Tryz.zeroValue362
 g3:=by kernel_rfl
 g4:=by kernel_rfl
 g13:=by kernel_rfl }
theorem Tryz.Builder_Extra_159:Builder.Extra prog Tryz.lays159_ren:={
 sizeBuilder:=by kernel_rfl
 liesBuilder:=by kernel_rfl
 t5:=underlying5
 a5:=Tryz.isAgg5
 z5:=Tryz.sizeOf5
 v5:=Tryz.zeroValue5
 infoByte:=by kernel_rfl
 cellsByte:=by kernel_rfl
 sizeByte:=by kernel_rfl
 neB5:=by decide }
open Go.RowKit in
theorem Tryz.strings_ToLower_ascii(s:ByteArray)(w:World)(hs:s.size<=140737488355328)(hascii:∀(j:Nat) (b:UInt8),s.data.toList[j]? =some b->b.toNat < 128):
  Calls prog 247 #[.string s] w fun e w'=>e=.returned (.string ⟨(Lib.toLowerA s.data.toList).toArray⟩)/\Below w.heap.size w w':=Any.strings_ToLower_ascii Tryz.lays159 Tryz.Builder_Extra_159 s w hs hascii
def Tryz.lays160_ren:Go.Shelf.Ren:=⟨fun | 160=>184 | 232=>235 | 231=>234 | 227=>236 | 234=>238 | 233=>237 | 236=>240 | 235=>239 | 228=>259 | 271=>262 | 151=>261 | 197=>260 | 120=>276 | 152=>275 | 260=>274 | 137=>288 | 119=>289 | 224=>290 | 225=>291 | 217=>294 | 266=>301 | n=>n,fun | 9=>9 | 4=>4 | 3=>3 | 5=>5 | 117=>296 | 116=>295 | 0=>0 | 124=>299 | 21=>21 | 105=>323 | 46=>220 | 119=>345 | 139=>348 | 138=>347 | n=>n,fun | 3=>1 | 4=>2 | n=>n⟩
theorem Tryz.lays160:Go.Proofs.Lays.n160 prog Tryz.lays160_ren:={
 mixed:=by kernel_rfl
 f119:=func289.trans (congrArg some (by kernel_rfl))
 f120:=func276.trans (congrArg some (by kernel_rfl))
 f137:=func288.trans (congrArg some (by kernel_rfl))
 f151:=func261.trans (congrArg some (by kernel_rfl))
 f152:=func275.trans (congrArg some (by kernel_rfl))
 f160:=func184.trans (congrArg some (by kernel_rfl))
 f197:=func260.trans (congrArg some (by kernel_rfl))
 f217:=func294.trans (congrArg some (by kernel_rfl))
 f224:=func290.trans (congrArg some (by kernel_rfl))
 f225:=func291.trans (congrArg some (by kernel_rfl))
 f227:=func236.trans (congrArg some (by kernel_rfl))
 f228:=func259.trans (congrArg some (by kernel_rfl))
 f231:=func234.trans (congrArg some (by kernel_rfl))
 f232:=func235.trans (congrArg some (by kernel_rfl))
 f233:=func237.trans (congrArg some (by kernel_rfl))
 f234:=func238.trans (congrArg some (by kernel_rfl))
 f235:=func239.trans (congrArg some (by kernel_rfl))
 f236:=func240.trans (congrArg some (by kernel_rfl))
 f260:=func274.trans (congrArg some (by kernel_rfl))
 f266:=func301.trans (congrArg some (by kernel_rfl))
 f271:=func262.trans (congrArg some (by kernel_rfl))
 t0:=underlying0
 a0:=Tryz.isAgg0
 z0:=Tryz.sizeOf0
 v0:=Tryz.zeroValue0
 t3:=underlying3
 a3:=Tryz.isAgg3
 z3:=Tryz.sizeOf3
 v3:=Tryz.zeroValue3
 t4:=underlying4
 a4:=Tryz.isAgg4
 z4:=Tryz.sizeOf4
 v4:=Tryz.zeroValue4
 t5:=underlying5
 a5:=Tryz.isAgg5
 z5:=Tryz.sizeOf5
 v5:=Tryz.zeroValue5
 t9:=underlying9
 a9:=Tryz.isAgg9
 z9:=Tryz.sizeOf9
 v9:=Tryz.zeroValue9
 t21:=underlying21
 a21:=Tryz.isAgg21
 z21:=Tryz.sizeOf21
 v21:=Tryz.zeroValue21
 t46:=underlying220
 a46:=Tryz.isAgg220
 z46:=Tryz.sizeOf220
 v46:=Tryz.zeroValue220
 t105:=underlying323
 a105:=Tryz.isAgg323
 z105:=Tryz.sizeOf323
 v105:=Tryz.zeroValue323
 t116:=underlying295
 a116:=Tryz.isAgg295
 z116:=Tryz.sizeOf295
 t117:=underlying296
 a117:=Tryz.isAgg296
 z117:=Tryz.sizeOf296
 v117:=Tryz.zeroValue296
 t119:=underlying345
 a119:=Tryz.isAgg345
 z119:=Tryz.sizeOf345
 t124:=underlying299
 a124:=Tryz.isAgg299
 z124:=Tryz.sizeOf299
 v124:=Tryz.zeroValue299
 t138:=underlying347
 a138:=Tryz.isAgg347
 z138:=Tryz.sizeOf347
 v138:=Tryz.zeroValue347
 t139:=underlying348
 a139:=Tryz.isAgg348
 z139:=Tryz.sizeOf348
 v139:=Tryz.zeroValue348
 g3:=by kernel_rfl
 g4:=by kernel_rfl }
def Tryz.lays144_ren:Go.Shelf.Ren:=⟨fun | 144=>248 | 143=>267 | 219=>282 | 217=>294 | 225=>291 | 224=>290 | 267=>295 | 266=>301 | 314=>302 | n=>n,fun | 9=>9 | 4=>4 | 3=>3 | 5=>5 | 46=>220 | 146=>340 | 51=>231 | n=>n,fun | 1=>4 | n=>n⟩
theorem Tryz.lays144:Go.Proofs.Lays.n144 prog Tryz.lays144_ren:={
 mixed:=by kernel_rfl
 f143:=func267.trans (congrArg some (by kernel_rfl))
 f144:=func248.trans (congrArg some (by kernel_rfl))
 f217:=func294.trans (congrArg some (by kernel_rfl))
 f219:=func282.trans (congrArg some (by kernel_rfl))
 f224:=func290.trans (congrArg some (by kernel_rfl))
 f225:=func291.trans (congrArg some (by kernel_rfl))
 f266:=func301.trans (congrArg some (by kernel_rfl))
 f267:=func295.trans (congrArg some (by kernel_rfl))
 f314:=func302.trans (congrArg some (by kernel_rfl))
 t3:=underlying3
 a3:=Tryz.isAgg3
 z3:=Tryz.sizeOf3
 v3:=Tryz.zeroValue3
 t4:=underlying4
 a4:=Tryz.isAgg4
 z4:=Tryz.sizeOf4
 v4:=Tryz.zeroValue4
 t5:=underlying5
 a5:=Tryz.isAgg5
 z5:=Tryz.sizeOf5
 v5:=Tryz.zeroValue5
 t9:=underlying9
 a9:=Tryz.isAgg9
 z9:=Tryz.sizeOf9
 v9:=Tryz.zeroValue9
 t46:=underlying220
 a46:=Tryz.isAgg220
 z46:=Tryz.sizeOf220
 v46:=Tryz.zeroValue220
 t51:=underlying231
 a51:=Tryz.isAgg231
 z51:=Tryz.sizeOf231
 v51:=Tryz.zeroValue231
 t146:=underlying340
 a146:=Tryz.isAgg340
 z146:=Tryz.sizeOf340
 v146:=Tryz.zeroValue340
 g1:=by kernel_rfl }
open Go.RowKit Go.Lib in
theorem Tryz.strings_Contains(s sub:ByteArray)(m:Int)(w:World)(hs:s.size < 4294967281)(hm:w.cell? ⟨4,0,none⟩=some (.int .i64 m)):
  Calls prog 248 #[.string s,.string sub] w fun e w'=>e=.returned (.bool (Lib.contains s.data.toList sub.data.toList))/\w'=w:=Any.strings_Contains Tryz.lays144 s sub m w hs hm
def Tryz.laysGw17_ren:Go.Shelf.Ren:=⟨fun | 17=>241 | 15=>216 | 20=>255 | n=>n,fun | 9=>9 | 23=>276 | 4=>4 | 3=>3 | 0=>0 | 21=>21 | n=>n,fun | n=>n⟩
theorem Tryz.laysGw17:Go.Proofs.LaysGw.n17 prog Tryz.laysGw17_ren:={
 mixed:=by kernel_rfl
 f15:=func216.trans (congrArg some (by kernel_rfl))
 f17:=func241.trans (congrArg some (by kernel_rfl))
 f20:=func255.trans (congrArg some (by kernel_rfl))
 t0:=underlying0
 a0:=Tryz.isAgg0
 z0:=Tryz.sizeOf0
 v0:=Tryz.zeroValue0
 i0:=by kernel_rfl
 t3:=underlying3
 a3:=Tryz.isAgg3
 z3:=Tryz.sizeOf3
 v3:=Tryz.zeroValue3
 i3:=by kernel_rfl
 t4:=underlying4
 a4:=Tryz.isAgg4
 z4:=Tryz.sizeOf4
 v4:=Tryz.zeroValue4
 i4:=by kernel_rfl
 t9:=underlying9
 a9:=Tryz.isAgg9
 z9:=Tryz.sizeOf9
 v9:=Tryz.zeroValue9
 i9:=by kernel_rfl
 t21:=underlying21
 a21:=Tryz.isAgg21
 z21:=Tryz.sizeOf21
 v21:=Tryz.zeroValue21
 i21:=by kernel_rfl
 t23:=underlying276
 a23:=Tryz.isAgg276
 z23:=Tryz.sizeOf276
 v23:=Tryz.zeroValue276
 i23:=by kernel_rfl }
open Go.RowKit Go.Lib in
def Tryz.lays155_ren:Go.Shelf.Ren:=⟨fun | 155=>249 | 154=>268 | 138=>283 | 165=>257 | 143=>267 | 166=>224 | 197=>260 | 169=>104 | 195=>296 | 218=>297 | 240=>256 | 241=>273 | 219=>282 | 260=>274 | 276=>272 | 277=>287 | 217=>294 | 225=>291 | 224=>290 | 267=>295 | 266=>301 | 314=>302 | n=>n,fun | 9=>9 | 3=>3 | 4=>4 | 72=>172 | 0=>0 | 76=>281 | 105=>323 | 21=>21 | 5=>5 | 70=>170 | 20=>20 | 37=>81 | 75=>125 | 127=>238 | 164=>334 | 46=>220 | 119=>345 | 139=>348 | 138=>347 | 146=>340 | 51=>231 | 80=>155 | n=>n,fun | 1=>4 | 3=>1 | 4=>2 | n=>n⟩
theorem Tryz.lays155:Go.Proofs.Lays.n155 prog Tryz.lays155_ren:={
 mixed:=by kernel_rfl
 f138:=func283.trans (congrArg some (by kernel_rfl))
 f143:=func267.trans (congrArg some (by kernel_rfl))
 f154:=func268.trans (congrArg some (by kernel_rfl))
 f155:=func249.trans (congrArg some (by kernel_rfl))
 f165:=func257.trans (congrArg some (by kernel_rfl))
 f166:=func224.trans (congrArg some (by kernel_rfl))
 f169:=func104.trans (congrArg some (by kernel_rfl))
 f195:=func296.trans (congrArg some (by kernel_rfl))
 f197:=func260.trans (congrArg some (by kernel_rfl))
 f217:=func294.trans (congrArg some (by kernel_rfl))
 f218:=func297.trans (congrArg some (by kernel_rfl))
 f219:=func282.trans (congrArg some (by kernel_rfl))
 f224:=func290.trans (congrArg some (by kernel_rfl))
 f225:=func291.trans (congrArg some (by kernel_rfl))
 f240:=func256.trans (congrArg some (by kernel_rfl))
 f241:=func273.trans (congrArg some (by kernel_rfl))
 f260:=func274.trans (congrArg some (by kernel_rfl))
 f266:=func301.trans (congrArg some (by kernel_rfl))
 f267:=func295.trans (congrArg some (by kernel_rfl))
 f276:=func272.trans (congrArg some (by kernel_rfl))
 f277:=func287.trans (congrArg some (by kernel_rfl))
 f314:=func302.trans (congrArg some (by kernel_rfl))
 t0:=underlying0
 a0:=Tryz.isAgg0
 z0:=Tryz.sizeOf0
 v0:=Tryz.zeroValue0
 t3:=underlying3
 a3:=Tryz.isAgg3
 z3:=Tryz.sizeOf3
 v3:=Tryz.zeroValue3
 t4:=underlying4
 a4:=Tryz.isAgg4
 z4:=Tryz.sizeOf4
 v4:=Tryz.zeroValue4
 t5:=underlying5
 a5:=Tryz.isAgg5
 z5:=Tryz.sizeOf5
 v5:=Tryz.zeroValue5
 t9:=underlying9
 a9:=Tryz.isAgg9
 z9:=Tryz.sizeOf9
 v9:=Tryz.zeroValue9
 t20:=underlying20
 a20:=Tryz.isAgg20
 z20:=Tryz.sizeOf20
 v20:=Tryz.zeroValue20
 t21:=underlying21
 a21:=Tryz.isAgg21
 z21:=Tryz.sizeOf21
 v21:=Tryz.zeroValue21
 t37:=underlying81
 a37:=Tryz.isAgg81
 z37:=Tryz.sizeOf81
 v37:=Tryz.zeroValue81
 t46:=underlying220
 a46:=Tryz.isAgg220
 z46:=Tryz.sizeOf220
 v46:=Tryz.zeroValue220
 t51:=underlying231
 a51:=Tryz.isAgg231
 z51:=Tryz.sizeOf231
 v51:=Tryz.zeroValue231
 t70:=underlying170
 a70:=Tryz.isAgg170
 z70:=Tryz.sizeOf170
 v70:=Tryz.zeroValue170
 t72:=underlying172
 a72:=Tryz.isAgg172
 z72:=Tryz.sizeOf172
 v72:=Tryz.zeroValue172
 t75:=underlying125
 a75:=Tryz.isAgg125
 z75:=Tryz.sizeOf125
 v75:=Tryz.zeroValue125
 t76:=underlying281
 a76:=Tryz.isAgg281
 z76:=Tryz.sizeOf281
 v76:=Tryz.zeroValue281
 t105:=underlying323
 a105:=Tryz.isAgg323
 z105:=Tryz.sizeOf323
 v105:=Tryz.zeroValue323
 t119:=underlying345
 a119:=Tryz.isAgg345
 z119:=Tryz.sizeOf345
 t127:=underlying238
 a127:=Tryz.isAgg238
 z127:=Tryz.sizeOf238
 v127:=Tryz.zeroValue238
 t138:=underlying347
 a138:=Tryz.isAgg347
 z138:=Tryz.sizeOf347
 v138:=Tryz.zeroValue347
 t139:=underlying348
 a139:=Tryz.isAgg348
 z139:=Tryz.sizeOf348
 v139:=Tryz.zeroValue348
 t146:=underlying340
 a146:=Tryz.isAgg340
 z146:=Tryz.sizeOf340
 v146:=Tryz.zeroValue340
 t164:=underlying334
 a164:=Tryz.isAgg334
 z164:=Tryz.sizeOf334
 v164:=Tryz.zeroValue334
 g1:=by kernel_rfl
 g3:=by kernel_rfl
 g4:=by kernel_rfl }
theorem Tryz.Builder_Extra_155:Builder.Extra prog Tryz.lays155_ren:={
 sizeBuilder:=by kernel_rfl
 liesBuilder:=by kernel_rfl
 t5:=underlying5
 a5:=Tryz.isAgg5
 z5:=Tryz.sizeOf5
 v5:=Tryz.zeroValue5
 infoByte:=by kernel_rfl
 cellsByte:=by kernel_rfl
 sizeByte:=by kernel_rfl
 neB5:=by decide }
open Go.RowKit Go.Lib in
theorem Tryz.strings_ReplaceAll(s old new:ByteArray)(m:Int)(w:World)(hs:s.size < 4294967281)(hm:w.cell? ⟨4,0,none⟩=some (.int .i64 m))(h1:1<=old.size)(hlen:s.size+Lib.countB s old*new.size<=140737488355328):
  Calls prog 249 #[.string s,.string old,.string new] w fun e w'=>
   e=.returned (.string ⟨(Lib.replaceAll s.data.toList old.data.toList new.data.toList).toArray⟩)/\Below w.heap.size w w':=Any.strings_ReplaceAll Tryz.lays155 Tryz.Builder_Extra_155 s old new m w hs hm h1 hlen
def Tryz.lays105_ren:Go.Shelf.Ren:=⟨fun | 105=>250 | 212=>269 | 99=>270 | 165=>257 | 166=>224 | 170=>271 | 169=>104 | 263=>284 | 264=>285 | 206=>286 | 240=>256 | 241=>273 | 276=>272 | 277=>287 | n=>n,fun | 9=>9 | 3=>3 | 4=>4 | 20=>20 | 0=>0 | 46=>220 | 109=>332 | 5=>5 | 72=>172 | 76=>281 | 51=>231 | 146=>340 | 53=>219 | 148=>342 | 70=>170 | 37=>81 | 75=>125 | 127=>238 | 164=>334 | 80=>155 | n=>n,fun | n=>n⟩
theorem Tryz.lays105:Go.Proofs.Lays.n105 prog Tryz.lays105_ren:={
 mixed:=by kernel_rfl
 f99:=func270.trans (congrArg some (by kernel_rfl))
 f105:=func250.trans (congrArg some (by kernel_rfl))
 f165:=func257.trans (congrArg some (by kernel_rfl))
 f166:=func224.trans (congrArg some (by kernel_rfl))
 f169:=func104.trans (congrArg some (by kernel_rfl))
 f170:=func271.trans (congrArg some (by kernel_rfl))
 f206:=func286.trans (congrArg some (by kernel_rfl))
 f212:=func269.trans (congrArg some (by kernel_rfl))
 f240:=func256.trans (congrArg some (by kernel_rfl))
 f241:=func273.trans (congrArg some (by kernel_rfl))
 f263:=func284.trans (congrArg some (by kernel_rfl))
 f264:=func285.trans (congrArg some (by kernel_rfl))
 f276:=func272.trans (congrArg some (by kernel_rfl))
 f277:=func287.trans (congrArg some (by kernel_rfl))
 t0:=underlying0
 a0:=Tryz.isAgg0
 z0:=Tryz.sizeOf0
 v0:=Tryz.zeroValue0
 t3:=underlying3
 a3:=Tryz.isAgg3
 z3:=Tryz.sizeOf3
 v3:=Tryz.zeroValue3
 t4:=underlying4
 a4:=Tryz.isAgg4
 z4:=Tryz.sizeOf4
 v4:=Tryz.zeroValue4
 t5:=underlying5
 a5:=Tryz.isAgg5
 z5:=Tryz.sizeOf5
 v5:=Tryz.zeroValue5
 t9:=underlying9
 a9:=Tryz.isAgg9
 z9:=Tryz.sizeOf9
 v9:=Tryz.zeroValue9
 t20:=underlying20
 a20:=Tryz.isAgg20
 z20:=Tryz.sizeOf20
 v20:=Tryz.zeroValue20
 t37:=underlying81
 a37:=Tryz.isAgg81
 z37:=Tryz.sizeOf81
 v37:=Tryz.zeroValue81
 t46:=underlying220
 a46:=Tryz.isAgg220
 z46:=Tryz.sizeOf220
 v46:=Tryz.zeroValue220
 t51:=underlying231
 a51:=Tryz.isAgg231
 z51:=Tryz.sizeOf231
 v51:=Tryz.zeroValue231
 t53:=underlying219
 a53:=Tryz.isAgg219
 z53:=Tryz.sizeOf219
 v53:=Tryz.zeroValue219
 t70:=underlying170
 a70:=Tryz.isAgg170
 z70:=Tryz.sizeOf170
 v70:=Tryz.zeroValue170
 t72:=underlying172
 a72:=Tryz.isAgg172
 z72:=Tryz.sizeOf172
 v72:=Tryz.zeroValue172
 t75:=underlying125
 a75:=Tryz.isAgg125
 z75:=Tryz.sizeOf125
 v75:=Tryz.zeroValue125
 t76:=underlying281
 a76:=Tryz.isAgg281
 z76:=Tryz.sizeOf281
 v76:=Tryz.zeroValue281
 t109:=underlying332
 a109:=Tryz.isAgg332
 z109:=Tryz.sizeOf332
 v109:=Tryz.zeroValue332
 t127:=underlying238
 a127:=Tryz.isAgg238
 z127:=Tryz.sizeOf238
 v127:=Tryz.zeroValue238
 t146:=underlying340
 a146:=Tryz.isAgg340
 z146:=Tryz.sizeOf340
 v146:=Tryz.zeroValue340
 t148:=underlying342
 a148:=Tryz.isAgg342
 z148:=Tryz.sizeOf342
 v148:=Tryz.zeroValue342
 t164:=underlying334
 a164:=Tryz.isAgg334
 z164:=Tryz.sizeOf334
 v164:=Tryz.zeroValue334 }
theorem Tryz.Builder_Extra_105:Builder.Extra prog Tryz.lays105_ren:={
 sizeBuilder:=by kernel_rfl
 liesBuilder:=by kernel_rfl
 t5:=underlying5
 a5:=Tryz.isAgg5
 z5:=Tryz.sizeOf5
 v5:=Tryz.zeroValue5
 infoByte:=by kernel_rfl
 cellsByte:=by kernel_rfl
 sizeByte:=by kernel_rfl
 neB5:=by decide }
open Go.RowKit Go.Lib in
theorem Tryz.strings_Repeat(s:ByteArray)(c:Nat)(w:World)(hc:c<=9223372036854775807)(hlen:s.size*c<=140737488355328):
  Calls prog 250 #[.string s,.int .i64 c] w fun e w'=>e=.returned (.string ⟨(Lib.repeatL s.data.toList c).toArray⟩)/\Below w.heap.size w w':=Any.strings_Repeat Tryz.lays105 Tryz.Builder_Extra_105 s c w hc hlen
end Go.Proofs
namespace Go.Proofs.YtfnkamphhpldcaaGreatDoor
open Go Sx Tryz
set_option maxRecDepth 100000
def encB(b:UInt8):List SA:=[.int .u8 b.toNat]
theorem aA:Plain encB:=fun x=>⟨fun _=>rfl,fun a b=>by simp only[encB,qs]at b;subst b;trivial⟩
def putZ(z:Nat):List UInt8:=if z < 128 then [UInt8.ofNat z]else UInt8.ofNat (z % 128+128)::putZ (z / 128)
termination_by z
decreasing_by omega
variable {z:Nat}
theorem fx(h:z < 128):putZ z=[UInt8.ofNat z]:=by rw[putZ,if_pos h]
theorem gq(h:¬z < 128):putZ z=UInt8.ofNat (z % 128+128)::putZ (z / 128):=by rw[putZ,if_neg h]
def cE(n:Int):Nat:=if n < 0 then((-n)*2 - 1).toNat else(n*2).toNat
def putI(n:Int):List UInt8:=putZ (cE n)
def putIR(n:Int):List UInt8×Int:=if n < -4611686018427387903\/4611686018427387903 < n then([],10)else(putI n,0)
def putSR(s:List UInt8):List UInt8×Int:=if 65536 < s.length then([],10)else(putI s.length++s,0)
theorem eC{n:Int}(h1:0<=n)(a:n<=18446744073709551615):IntKind.u64.wrap n=n:=IntWalk.u64_in _ ⟨h1,a⟩
theorem og{n:Int}(h1:0<=n)(a:n<=255):IntKind.u8.wrap n=n:=IntWalk.u8_in _ ⟨h1,a⟩
theorem Bb(n:Int)(h:-4611686018427387903<=n/\n<=4611686018427387903):Pu prog 140 [.va (.int .i64 n)] (.va (.int .u64 (cE n))):=by
 intro F;refine foS func140 ?_;refine br (fun g=>?_) (fun g=>?_)
 ·have a:n < 0:=by simpa using g
  refine endPu rfl (Fz.r F) (oi ?_) rfl;rw[aF (n:=0 - n) oo oo,eC (n:=0 - n) oo oo,eC (n:=(0 - n)*2) oo oo,eC oo oo,cE,if_pos a];omega
 ·have a:¬n < 0:=by simpa using g
  refine endPu rfl (Fz.r F) (oi ?_) rfl;rw[eC (n:=n) oo oo,eC oo oo,cE,if_neg a];omega
theorem oh(n:Int)(h:-4611686018427387903<=n/\n<=4611686018427387903):cE n < 9223372036854775808:=by
 unfold cE;split<;>omega
theorem mK(m:Nat)(h:m < 256):SA.int .u8 (IntKind.u8.wrap (m:Int))=SA.int .u8 ((UInt8.ofNat m).toNat:Int):=by
 rw[og oo oo];simp[ju h]
variable {m:Nat}
theorem few7{a:Nat}(h1:1<=z)(h:z*128^a<=m)(e:m < 9223372036854775808):a < 10:=by
 apply Classical.byContradiction;intro d;have b:128^10<=128^a:=qa4 oo oo;have c:1*128^a<=z*128^a:=qaa _ h1;omega
theorem next7{a:Nat}(h:z*128^a<=m):z / 128*128^(a+1)<=m:=by
 have h1:z / 128*128^(a+1)=(z / 128*128)*128^a:=by rw[qck,qae (128^a) 128,qcr]
 have b:z / 128*128<=z:=qd5 z 128;rw[h1];exact jm (qaa _ b) h
theorem fj(F:Fz)(n:Int):Fo prog F 81 [.va (.int .i64 n)] (fun o I=>o=.ret (.tup [.va (.str (putIR n).1),.va (.int .i64 (putIR n).2)])/\I=F):=by
 have k:n < -4611686018427387903\/4611686018427387903 < n->putIR n=([],10):=fun h=>by rw[putIR,if_pos h]
 refine foS func81 ?_;refine⟨fun g=>?_,fun g=>?_⟩
 ·have B:¬n < -4611686018427387903:=by simpa using g
  refine br (fun g=>?_) (fun g=>?_)
  ·have D:4611686018427387903 < n:=by simpa using g
   exact endFs (.ret (.tup [.va (.str []),.va (.int .i64 10)])) (Fz.r F) ⟨by rw[k (.inr D)],rfl⟩
  ·have D:¬4611686018427387903 < n:=by simpa using g
   have hb:-4611686018427387903<=n/\n<=4611686018427387903:=by omega
   have G:=oh n hb;have e:putIR n=(putZ (cE n),0):=by rw[putIR,if_neg oo,putI]
   refine usePs (Bb n hb F) ?_;conv=>whnf
   refine aI hΘ (X:={ x:Nat×List UInt8×Nat // x.1 < 9223372036854775808/\putZ (cE n)=x.2.1++putZ x.1/\x.1*128^x.2.1.length<=cE n/\x.2.1.length<=10 }) (fun x=>[(4,.va (.int .u64 x.1.1)),(5,.va (gA 1 1 x.1.2.2 x.1.2.1))]) (jr 14 11 [])
    (fun x=>[(0,.frz F),(1,gE 5 1 encB x.1.2.2 x.1.2.1)]) 2 (fun x=>x.1.1) ⟨(cE n,[],0),G,rfl,by show cE n*128^0<=cE n;omega,by simp⟩
    (fun u w=>leI [(1,1)] u w rfl ⟨tv,aC aA _ _ _ _ _,tv⟩ ⟨rfl,rfl,tv⟩ ⟨Fz.r F,rfl,tv⟩) ?_
   rintro⟨⟨z,out,c⟩,s,a,b,d⟩ u w;replace d:out.length<=10:=d;replace s:z < 9223372036854775808:=s;replace a:putZ (cE n)=out++putZ z:=a;replace b:z*128^out.length<=cE n:=b;refine br (fun l=>?_) (fun l=>?_)
   ·have y:¬z < 128:=by
     have J:(128:Int)<=z:=by simpa using l
     omega
    clear l;have f:=few7 oo b G;have q:z / 128*128^(out++[UInt8.ofNat (z % 128+128)]).length<=cE n:=by rw[qb];exact next7 b
    have p:putZ (cE n)=(out++[UInt8.ofNat (z % 128+128)])++putZ (z / 128):=by rw[a,gq y,ql];rfl
    have m:SA.int .u8 (IntKind.u8.wrap (IntKind.u64.wrap ((z:Int).tmod 128+128)))=SA.int .u8 ((UInt8.ofNat (z % 128+128)).toNat:Int):=by
     have h1:(z:Int).tmod 128=((z % 128:Nat):Int):=rfl;rw[h1,eC oo oo];exact mK (z % 128+128) oo
    have E:IntKind.u64.wrap ((z:Int).tdiv 128)=((z / 128:Nat):Int):=by
     have h1:(z:Int).tdiv 128=((z / 128:Nat):Int):=rfl;rw[h1,eC oo oo]
    have K:([]++[UInt8.ofNat (z % 128+128)]:List UInt8).length=1:=rfl;rcases out with _ | ⟨x,r⟩
    ·refine⟨by decide,nb rfl,[encB (UInt8.ofNat (z % 128+128))],by show[[SA.int .u8 _]]=_;rw[m];rfl,rfl,rfl,nb rfl,fun c' A=>?_⟩;refine⟨by decide,?_⟩
     exact⟨⟨(z / 128,[]++[UInt8.ofNat (z % 128+128)],c'),by show z / 128 < 9223372036854775808;omega,p,q,by simp<;>omega⟩,by show z / 128 < z;omega,
      leR [(1,3)] u w rfl ⟨tv,aC aA _ _ _ _ _,tv⟩ ⟨by show SA.int .u64 _=SA.int .u64 _;rw[E],cO (μ:=sig [(1,3)]) (i:=1) (j:=3) rfl 1 c' _ [] (UInt8.ofNat (z % 128+128)) rfl,tv⟩ ⟨Fz.r F,aH aA (bC [encB (UInt8.ofNat (z % 128+128))] rfl),tv⟩⟩
    ·replace f:r.length+1 < 10:=f;refine⟨by decide,nb rfl,[encB (UInt8.ofNat (z % 128+128))],by show[[SA.int .u8 _]]=_;rw[m];rfl,rfl,rfl,by simp,rfl,by show(r.length+1+1)*1<=140737488355328;omega,fun c' A=>?_⟩;refine⟨by decide,?_⟩
     exact⟨⟨(z / 128,(x::r)++[UInt8.ofNat (z % 128+128)],c'),by show z / 128 < 9223372036854775808;omega,p,q,by simp<;>omega⟩,by show z / 128 < z;omega,
      leR [(1,3)] u w rfl ⟨tv,aC aA _ _ _ _ _,tv⟩ ⟨by show SA.int .u64 _=SA.int .u64 _;rw[E],cO (μ:=sig [(1,3)]) (i:=1) (j:=3) rfl 1 c' _ (x::r) (UInt8.ofNat (z % 128+128)) rfl,tv⟩ ⟨Fz.r F,aH aA (bC _ ss),tv⟩⟩
   ·have y:z < 128:=by
     have J:¬(128:Int)<=z:=by simpa using l
     omega
    clear l;rw[fx y]at a;rcases out with _ | ⟨x,r⟩
    ·refine⟨nb rfl,[encB (UInt8.ofNat z)],by show[[SA.int .u8 _]]=_;rw[mK z oo];rfl,rfl,rfl,nb rfl,fun c' A=>?_⟩;refine⟨nb rfl,_,rfl,[UInt8.ofNat z],rfl,?_⟩;exact endFs (.ret (.tup [.va (.str ([]++[UInt8.ofNat z])),.va (.int .i64 0)])) (Fz.r F) ⟨by rw[e,a],rfl⟩
    ·replace d:r.length+1<=10:=d;refine⟨nb rfl,[encB (UInt8.ofNat z)],by show[[SA.int .u8 _]]=_;rw[mK z oo];rfl,rfl,rfl,by simp,rfl,by show(r.length+1+1)*1<=140737488355328;omega,fun c' A=>?_⟩;refine⟨by show 0+(r.length+1+1)<=(((x::r).map encB)++[encB (UInt8.ofNat z)]).length;simp,((x::r)++[UInt8.ofNat z]).map encB,by show((((x::r).map encB)++[encB (UInt8.ofNat z)]).drop 0).take (r.length+1+1)=_;rw[y5,qk ss];simp,(x::r)++[UInt8.ofNat z],rfl,?_⟩;exact endFs (.ret (.tup [.va (.str ((x::r)++[UInt8.ofNat z])),.va (.int .i64 0)])) (Fz.r F) ⟨by rw[e,a],rfl⟩
 ·have B:n < -4611686018427387903:=by simpa using g
  exact endFs (.ret (.tup [.va (.str []),.va (.int .i64 10)])) (Fz.r F) ⟨by rw[k (.inl B)],rfl⟩
theorem xU:∀(k z:Nat),z < 128^(k+1)->(putZ z).length<=k+1
 |0,z,h=>by rw[fx (by simpa using h)];simp
 |k+1,z,h=>by
  by_cases a:z < 128
  ·rw[fx a];simp
  ·rw[gq a,qf];have:=xU k (z / 128) (by rw[Nat.div_lt_iff_lt_mul oo,<-qck];exact h);omega
theorem ku(n:Int)(h:-4611686018427387903<=n/\n<=4611686018427387903):(putI n).length<=9:=
 xU 8 _ (yy (oh n h) dd)
theorem dO(n:Int):(putIR n).1.length<=9:=by
 unfold putIR;split
 ·simp
 ·exact ku n oo
theorem sW(F:Fz)(s:List UInt8)(h:s.length<=9000000000000000000):Fo prog F 80 [.va (.str s)] (fun o b=>o=.ret (.tup [.va (.str (putSR s).1),.va (.int .i64 (putSR s).2)])/\b=F):=by
 refine foS func80 ?_;refine br (fun g=>?_) (fun g=>?_)
 ·have a:65536 < s.length:=by have e:(65536:Int) < s.length:=(by simpa using g);omega
  exact endFs (.ret (.tup [.va (.str []),.va (.int .i64 10)])) (Fz.r F) ⟨by rw[putSR,if_pos a],rfl⟩
 ·have a:¬65536 < s.length:=by have e:¬(65536:Int) < s.length:=(by simpa using g);omega
  have c:putIR s.length=(putI s.length,0):=by rw[putIR,if_neg oo]
  have d:putSR s=(putI s.length++s,0):=by rw[putSR,if_neg a]
  refine usePs (fj F s.length) ?_;conv=>whnf
  have f:=dO s.length;refine⟨by omega,?_⟩;exact endFs (.ret (.tup [.va (.str ((putIR s.length).1++s)),.va (.int .i64 0)])) (Fz.r F) ⟨by rw[d,c],rfl⟩
def aB(l:List Int):List UInt8:=(l.map fun n=>(putIR n).1).flatten
def encS(s:List UInt8):List SA:=[.str s]
theorem eX{α β:Type}{f:α->List β}{l:List α}{k:Nat}(g:k < l.length):((l.take (k+1)).map f).flatten=((l.take k).map f).flatten++f l[k]:=by
 rw[qe g,qq,yi];simp
theorem fJ{α β:Type}{f:α->List β}{m:Nat}(h:∀x,(f x).length<=m):∀l:List α,(l.map f).flatten.length<=m*l.length
 |[]=>by simp
 |x::r=>by
  have:=fJ h r;have:=h x;simp only[q9,jw,qb,qf,qea];omega
theorem eH(s:List UInt8):(putSR s).1.length<=65545:=by
 unfold putSR;split
 ·simp
 ·have:=ku s.length oo;rw[qb];omega
def decZ:List UInt8->Nat->Nat->Nat->Option (Nat×Nat×UInt8)
 |_,0,_,_=>none
 |[],_+1,_,_=>none
 |b::r,f+1,i,z=>if 128<=b.toNat then decZ r f (i+1) (z+b.toNat % 128*128^i)else some (z+b.toNat*128^i,i,b)
def unz(z:Nat):Int:=if z % 2=1 then -((z / 2:Nat):Int) - 1 else((z / 2:Nat):Int)
def getI(s:List UInt8)(a:Int):Int×Int×Int:=
 if a < 0\/(s.length:Int) < a then(0,0,2)else
 match decZ (s.drop a.toNat) 9 0 0 with
 |none=>(0,0,10)
 |some (z,i,b)=>if(b=0/\0 < i)\/unz z < -4611686018427387903 then(0,0,10)else(unz z,a+i+1,0)
theorem yfe(b:UInt8):bAnd .u8 (b.toNat:Int) 127=((b.toNat % 128:Nat):Int):=by
 have hb:=b.toNat_lt
 have h1:(BitVec.ofInt IntKind.u8.bits (b.toNat:Int)&&&BitVec.ofInt IntKind.u8.bits 127).toNat=b.toNat % 128:=by
  show(BitVec.ofInt 8 (b.toNat:Int)&&&BitVec.ofInt 8 127).toNat=_;rw[BitVec.toNat_and,BitVec.ofInt_natCast,BitVec.toNat_ofNat];show b.toNat % 256&&&127=_;rw[ju hb];exact qcp b.toNat 7
 rw[bAnd,h1,og oo oo]
variable {i:Nat}
theorem or_lt(a:z < 128^i):z|||(m*128^i)=z+m*128^i:=by
 have e:128^i=2^(7*i):=by rw[Nat.pow_mul]
 rw[e]at a ⊢;have:=qbw a m;rw[qae m,Nat.or_comm,<-this,qb5]
theorem pow9(h:i<=8):128^i<=72057594037927936:=by
 have:128^i<=128^8:=qa4 oo h;exact this
theorem shl7(m i:Nat)(d:m < 128)(b:i<=8):shlI .u64 (m:Int) (IntKind.i64.wrap (7*(i:Int)))=((m*128^i:Nat):Int):=by
 have c:=pow9 b;have h1:m*128^i<=127*72057594037927936:=qah oo c;have e:(IntKind.i64.wrap (7*(i:Int))).toNat=7*i:=by rw[aF oo oo];omega
 rw[shlI,e,qao (show 7*i<=IntKind.u64.bits by show 7*i<=64;omega)]
 have a:(m:Int)*2^(7*i)=((m*128^i:Nat):Int):=by
  rw[show(128:Nat)^i=2^(7*i)by rw[Nat.pow_mul]];simp
 rw[a,eC oo oo]
theorem or7(d:z < 128^i)(e:m < 128)(b:i<=8):bOr .u64 (z:Int) ((m*128^i:Nat):Int)=((z+m*128^i:Nat):Int):=by
 have c:=pow9 b;have h1:m*128^i<=127*72057594037927936:=qah oo c
 have a:(BitVec.ofInt IntKind.u64.bits (z:Int)|||BitVec.ofInt IntKind.u64.bits ((m*128^i:Nat):Int)).toNat=z+m*128^i:=by
  show(BitVec.ofInt 64 (z:Int)|||BitVec.ofInt 64 ((m*128^i:Nat):Int)).toNat=_;rw[BitVec.toNat_or,BitVec.ofInt_natCast,BitVec.ofInt_natCast,BitVec.toNat_ofNat,BitVec.toNat_ofNat,ju oo,ju oo];exact or_lt d
 rw[bOr,a,eC oo oo]
theorem acc7(b:UInt8)(d:z < 128^i)(a:i<=8):bOr .u64 (z:Int) (shlI .u64 (IntKind.u64.wrap (bAnd .u8 (b.toNat:Int) 127)) (IntKind.i64.wrap (7*(i:Int))))=((z+b.toNat % 128*128^i:Nat):Int):=by
 have c:b.toNat % 128 < 128:=qa1 _ oo;rw[yfe,eC oo oo,shl7 _ _ c a,or7 d c a]
theorem nv(b:z < 128^i)(a:m < 128):z+m*128^i < 128^(i+1):=by
 rw[qck];have:m*128^i<=127*128^i:=qaa _ oo;omega
theorem and1(z:Nat)(h:z < 18446744073709551616):bAnd .u64 (z:Int) 1=((z % 2:Nat):Int):=by
 have h1:(BitVec.ofInt IntKind.u64.bits (z:Int)&&&BitVec.ofInt IntKind.u64.bits 1).toNat=z % 2:=by
  show(BitVec.ofInt 64 (z:Int)&&&BitVec.ofInt 64 1).toNat=_;rw[BitVec.toNat_and,BitVec.ofInt_natCast,BitVec.toNat_ofNat,ju h];exact Nat.and_one_is_mod z
 rw[bAnd,h1,eC oo oo]
theorem yg8(z:Nat)(h:z < 9223372036854775808):bXor .i64 (IntKind.i64.wrap (shrI .u64 (z:Int) 1)) (IntKind.i64.wrap (0 - IntKind.i64.wrap (bAnd .u64 (z:Int) 1)))=unz z:=by
 have c:shrI .u64 (z:Int) 1=((z / 2:Nat):Int):=by
  show(z:Int).fdiv (2^1)=_;rw[qba _ dd];rfl
 rw[c,and1 z oo,aF (n:=((z / 2:Nat):Int)) oo oo,aF (n:=((z % 2:Nat):Int)) oo oo,aF (n:=0 - _) oo oo];by_cases b:z % 2=1
 ·rw[b,unz,if_pos b]
  have a:(BitVec.ofInt IntKind.i64.bits ((z / 2:Nat):Int)^^^BitVec.ofInt IntKind.i64.bits (0 - ((1:Nat):Int))).toNat=18446744073709551615 - z / 2:=by
   show(BitVec.ofInt 64 ((z / 2:Nat):Int)^^^BitVec.ofInt 64 (0 - ((1:Nat):Int))).toNat=_;have:BitVec.ofInt 64 (0 - ((1:Nat):Int))=BitVec.allOnes 64:=by decide
   rw[this,BitVec.xor_allOnes,BitVec.toNat_not,BitVec.ofInt_natCast,BitVec.toNat_ofNat,ju oo]
  rw[bXor,a,IntKind.wrap_i64];omega
 ·have d:z % 2=0:=by omega
  rw[d,unz,if_neg b]
  have a:(BitVec.ofInt IntKind.i64.bits ((z / 2:Nat):Int)^^^BitVec.ofInt IntKind.i64.bits (0 - ((0:Nat):Int))).toNat=z / 2:=by
   show(BitVec.ofInt 64 ((z / 2:Nat):Int)^^^BitVec.ofInt 64 (0 - ((0:Nat):Int))).toNat=_;have:BitVec.ofInt 64 (0 - ((0:Nat):Int))=0#64:=by decide
   rw[this,BitVec.xor_zero,BitVec.ofInt_natCast,BitVec.toNat_ofNat,ju oo]
  rw[bXor,a,aF oo oo]
theorem vB{f:Nat}:decZ [] f i z=none:=by cases f<;>rfl
theorem drop_at{s:List UInt8}{k:Nat}(h:k < s.length):s.drop k=s[k]::s.drop (k+1):=ji h
theorem nF(F:Fz)(s:List UInt8)(p:Int)(hs:s.length<=1000000000000000000)(hp:i64 p):
  Fo prog F 151 [.va (.str s),.va (.int .i64 p)] (fun o K=>o=.ret (.tup [.va (.int .i64 (getI s p).1),.va (.int .i64 (getI s p).2.1),.va (.int .i64 (getI s p).2.2)])/\K=F):=by
 have fin:∀(n x e:Int) (h:Hp) (nx:Nat),getI s p=(n,x,e)->lget h 0=some (.frz F)->
   Cln 1 (FoK F fun o K=>o=.ret (.tup [.va (.int .i64 (getI s p).1),.va (.int .i64 (getI s p).2.1),.va (.int .i64 (getI s p).2.2)])/\K=F) (.ret (.tup [.va (.int .i64 n),.va (.int .i64 x),.va (.int .i64 e)])) h nx:=by
  intro n x e h nx hv c;exact endFo (.ret (.tup [.va (.int .i64 n),.va (.int .i64 x),.va (.int .i64 e)])) F c (Fz.r F) (Fz.r F) ⟨by rw[hv],rfl⟩ (aO _) rfl
 refine foS func151 ?_;refine⟨fun g=>?_,fun g=>?_⟩
 ·have V:¬p < 0:=by simpa using g
  refine br (fun g=>?_) (fun g=>?_)
  ·have W:(s.length:Int) < p:=by simpa using g
   exact fin 0 0 2 _ _ (by rw[getI,if_pos (.inr W)]) rfl
  ·have W:¬(s.length:Int) < p:=by simpa using g
   have R:∃a:Nat,p=a/\a<=s.length:=⟨p.toNat,by omega,by omega⟩
   obtain⟨a,ea,aa⟩:=R;subst ea
   have Z:getI s a=match decZ (s.drop a) 9 0 0 with
    |none=>(0,0,10)
    |some (z,i,b)=>if(b=0/\0 < i)\/unz z < -4611686018427387903 then(0,0,10)else(unz z,a+i+1,0):=by
    rw[getI,if_neg oo];rfl
   have B:decZ (s.drop a) 9 0 0=none->getI s a=(0,0,10):=fun h=>by rw[Z,h]
   conv=>whnf
   refine aI hΘ (X:={ x:Nat×Nat // x.1<=9/\x.2 < 128^x.1/\decZ (s.drop a) 9 0 0=decZ (s.drop (a+x.1)) (9 - x.1) x.1 x.2 }) (fun x=>[(7,.va (.int .u64 x.1.2)),(19,.va (.int .i64 x.1.1))]) (4::5::6::8::9::10::jr 20 47 []) (fz fun _=>F) 1 (fun x=>9 - x.1.1) ⟨(0,0),by simp⟩
    (fun O Q=>le0 O Q rfl (Fz.r F) rfl ⟨rfl,rfl,tv⟩) ?_
   rintro⟨⟨i,z⟩,hi,J,y⟩ O Q;replace hi:i<=9:=hi;replace J:z < 128^i:=J;replace y:decZ (s.drop a) 9 0 0=decZ (s.drop (a+i)) (9 - i) i z:=y;refine br (fun E=>?_) (fun E=>?_)
   ·have Y:i < 9:=by
     have c:(i:Int) < 9:=by simpa using E
     omega
    clear E;have u:IntKind.i64.wrap ((a:Int)+i)=((a+i:Nat):Int):=by rw[aF oo oo];rfl
    have h9:9 - i=(9 - (i+1))+1:=by omega
    refine br (fun G=>?_) (fun G=>?_)
    ·have I:s.length<=a+i:=by
      have c:(s.length:Int)<=IntKind.i64.wrap ((a:Int)+i):=by simpa using G
      rw[u]at c;omega
     exact fin 0 0 10 _ _ (B (by rw[y,yg I,vB])) rfl
    ·have I:a+i < s.length:=by
      have c:¬(s.length:Int)<=IntKind.i64.wrap ((a:Int)+i):=by simpa using G
      rw[u]at c;omega
     clear G;have l:=y;rw[drop_at I,h9,decZ]at l;have k:=acc7 s[a+i] J oo;have hm:s[a+i].toNat % 128 < 128:=qa1 _ oo;have A:=nv J hm;refine⟨by dsimp only;rw[u];omega,s[a+i],by dsimp only;rw[u,qg,qc I],by dsimp only;rw[aF oo oo];omega,?_⟩;refine br (fun w=>?_) (fun w=>?_)
     ·have j:128<=s[a+i].toNat:=by
       have c:(128:Int)<=s[a+i].toNat:=by simpa using w
       omega
      clear w;rw[if_pos j]at l;refine⟨⟨(i+1,z+s[a+i].toNat % 128*128^i),by show i+1<=9;omega,A,l⟩,by show 9 - (i+1) < 9 - i;omega,lr0 O Q rfl (Fz.r F) rfl ⟨?_,cnt oo,tv⟩⟩;exact congrArg (SA.int .u64) k.symm
     ·have j:¬128<=s[a+i].toNat:=by
       have c:¬(128:Int)<=s[a+i].toNat:=by simpa using w
       omega
      clear w;rw[if_neg j]at l;have S:s[a+i].toNat % 128=s[a+i].toNat:=ju oo;rw[S]at k A
      have ab:128^(i+1)<=9223372036854775808:=by
       have:128^(i+1)<=128^9:=qa4 oo oo;exact this
      have q:=yg8 (z+s[a+i].toNat*128^i) oo;rw[<-k]at q;have d:getI s a=if(s[a+i]=0/\0 < i)\/unz (z+s[a+i].toNat*128^i) < -4611686018427387903 then(0,0,10)else(unz (z+s[a+i].toNat*128^i),(a:Int)+i+1,0):=by rw[Z,l]
      have U:IntKind.i64.wrap (IntKind.i64.wrap ((a:Int)+i)+1)=(a:Int)+i+1:=by rw[u,aF oo oo];omega
      have T:(s[a+i].toNat:Int)=0↔s[a+i]=0:=by
       constructor
       ·intro h;exact qbq.1 (by simpa using h)
       ·intro h;rw[h];rfl
      refine⟨by decide,fun L=>?_,fun L=>?_⟩
      ·have M:s[a+i]=0:=T.1 (od L);refine⟨fun gp=>?_,fun gp=>?_⟩
       ·have D:¬(s[a+i]=0/\0 < i):=fun h=>by
         have c:¬(0:Int) < i:=oe gp;omega
        refine br (fun m=>?_) (fun m=>?_)
        ·have f:unz (z+s[a+i].toNat*128^i) < -4611686018427387903:=by
          have c:=od m;rw[<-q];exact c
         exact fin 0 0 10 _ _ (by rw[d,if_pos (.inr f)]) rfl
        ·have f:¬unz (z+s[a+i].toNat*128^i) < -4611686018427387903:=by
          have c:=oe m;rw[<-q];exact c
         exact fin _ _ 0 _ _ (by rw[d,if_neg (by rintro(h | h);exact D h;exact f h),<-q,<-U]) rfl
       ·have D:s[a+i]=0/\0 < i:=⟨M,by
         have c:(0:Int) < i:=od gp;omega⟩
        exact fin 0 0 10 _ _ (by rw[d,if_pos (.inl D)]) rfl
      ·have D:¬(s[a+i]=0/\0 < i):=fun h=>oe L (T.2 h.1)
       refine br (fun m=>?_) (fun m=>?_)
       ·have f:unz (z+s[a+i].toNat*128^i) < -4611686018427387903:=by
         have c:=od m;rw[<-q];exact c
        exact fin 0 0 10 _ _ (by rw[d,if_pos (.inr f)]) rfl
       ·have f:¬unz (z+s[a+i].toNat*128^i) < -4611686018427387903:=by
         have c:=oe m;rw[<-q];exact c
        exact fin _ _ 0 _ _ (by rw[d,if_neg (by rintro(h | h);exact D h;exact f h),<-q,<-U]) rfl
   ·have Y:i=9:=by
     have c:¬(i:Int) < 9:=by simpa using E
     omega
    subst Y;exact fin 0 0 10 _ _ (B (by rw[y];cases s.drop (a+9)<;>rfl)) rfl
 ·have V:p < 0:=by simpa using g
  exact fin 0 0 2 _ _ (by rw[getI,if_pos (.inl V)]) rfl
theorem vz:∀(l:List UInt8) (f i z:Nat) {d i':Nat} {b:UInt8},decZ l f i z=some (d,i',b)->i<=i'/\i' - i < l.length/\i' < i+f/\l[i' - i]? =some b
 |_,0,_,_,_,_,_,h=>by simp[decZ]at h
 |[],_+1,_,_,_,_,_,h=>by simp[decZ]at h
 |b::r,f+1,i,z,d,i',b',h=>by
  rw[decZ]at h;split at h
  ·obtain⟨h1,a,c,e⟩:=vz r f (i+1) _ h;refine⟨by omega,by simp;omega,by omega,?_⟩;have:i' - i=(i' - (i+1))+1:=by omega
   rw[this,qbj];exact e
  ·simp only[Option.some.injEq,Prod.mk.injEq]at h;obtain⟨_,a,c⟩:=h;subst a;subst c;exact⟨qj _,by simp,by omega,by simp⟩
theorem rk:∀(l:List UInt8) (f i z:Nat) {a i':Nat} {b:UInt8},decZ l f i z=some (a,i',b)->z < 128^i->a < 128^(i'+1)
 |_,0,_,_,_,_,_,h,_=>by simp[decZ]at h
 |[],_+1,_,_,_,_,_,h,_=>by simp[decZ]at h
 |b::r,f+1,i,z,a,i',b',h,hz=>by
  rw[decZ]at h;split at h
  ·exact rk r f (i+1) _ h (nv hz (qa1 _ oo))
  ·rename_i hb;simp only[Option.some.injEq,Prod.mk.injEq]at h;obtain⟨h1,c,_⟩:=h;subst h1;subst c;exact nv hz oo
theorem e8{s:List UInt8}{p:Int}(h:(getI s p).2.2=0):0<=p/\p < (getI s p).2.1/\(getI s p).2.1<=s.length/\ -4611686018427387903<=(getI s p).1/\(getI s p).1<=4611686018427387903:=by
 rw[getI]at h ⊢;split at h
 ·simp at h
 ·rename_i hb;rw[if_neg hb];split at h
  ·simp at h
  ·rename_i z i b a;split at h
   ·simp at h
   ·rename_i d;simp only[if_neg d];obtain⟨h1,c,e,f⟩:=vz _ _ _ _ a;have g:=rk _ _ _ _ a ss;have j:128^(i+1)<=128^9:=qa4 oo oo;have k:(128:Nat)^9=9223372036854775808:=by decide
    rw[yl]at c;refine⟨by omega,by omega,by omega,by omega,?_⟩;unfold unz;split<;>omega
def getS(s:List UInt8)(p:Int):List UInt8×Int×Int:=
 if(getI s p).2.2≠0 then([],0,(getI s p).2.2)else
 if(getI s p).1 < 0\/65536 < (getI s p).1\/(s.length:Int) - (getI s p).2.1 < (getI s p).1 then([],0,10)else
 ((s.take ((getI s p).2.1+(getI s p).1).toNat).drop (getI s p).2.1.toNat,(getI s p).2.1+(getI s p).1,0)
theorem o8(F:Fz)(s:List UInt8)(p:Int)(E:s.length<=1000000000000000000)(D:i64 p):
  Fo prog F 152 [.va (.str s),.va (.int .i64 p)] (fun o m=>o=.ret (.tup [.va (.str (getS s p).1),.va (.int .i64 (getS s p).2.1),.va (.int .i64 (getS s p).2.2)])/\m=F):=by
 have fin:∀(n:List UInt8) (x e:Int) (h:Hp) (nx:Nat),getS s p=(n,x,e)->lget h 0=some (.frz F)->
   Cln 1 (FoK F fun o m=>o=.ret (.tup [.va (.str (getS s p).1),.va (.int .i64 (getS s p).2.1),.va (.int .i64 (getS s p).2.2)])/\m=F) (.ret (.tup [.va (.str n),.va (.int .i64 x),.va (.int .i64 e)])) h nx:=by
  intro n x e h nx G j;exact endFo (.ret (.tup [.va (.str n),.va (.int .i64 x),.va (.int .i64 e)])) F j (Fz.r F) (Fz.r F) ⟨by rw[G],rfl⟩ (aO _) rfl
 have B:=nF F s p E D;have c:=@e8 s p;have b:∀n x e,getI s p=(n,x,e)->getS s p=if e≠0 then([],0,e)else if n < 0\/65536 < n\/(s.length:Int) - x < n then([],0,10)else((s.take (x+n).toNat).drop x.toNat,x+n,0):=fun n x e h=>by rw[getS,h]
 obtain⟨n,x,e,A⟩:∃n x e,getI s p=(n,x,e):=⟨_,_,_,rfl⟩
 have b:=b n x e A;rw[A]at B c;replace c:e=0->0<=p/\p < x/\x<=s.length/\ -4611686018427387903<=n/\n<=4611686018427387903:=c;refine foS func152 ?_;refine usePs (B) ?_;refine br (fun g=>?_) (fun g=>?_)
 ·have l:e≠0:=by simpa using g
  exact fin [] 0 e _ _ (by rw[b,if_pos l]) rfl
 ·have l:e=0:=by simpa using g
  have hb:=c l;have a:getS s p=if n < 0\/65536 < n\/(s.length:Int) - x < n then([],0,10)else((s.take (x+n).toNat).drop x.toNat,x+n,0):=by rw[b,if_neg (by simp[l])]
  have y:IntKind.i64.wrap ((s.length:Int) - x)=s.length - x:=aF oo oo;refine⟨fun q=>?_,fun q=>?_⟩
  ·have d:¬n < 0:=oe q;refine⟨fun u=>?_,fun u=>?_⟩
   ·have f:¬65536 < n:=oe u;refine br (fun w=>?_) (fun w=>?_)
    ·have i:(s.length:Int) - x < n:=by have j:=od w;rw[<-y];exact j
     exact fin [] 0 10 _ _ (by rw[a,if_pos (.inr (.inr i))]) rfl
    ·have i:¬(s.length:Int) - x < n:=by have j:=oe w;rw[<-y];exact j
     have k:IntKind.i64.wrap (x+n)=x+n:=aF oo oo;refine⟨⟨by dsimp only;rw[k];omega,by dsimp only;rw[k];omega⟩,⟨by dsimp only;omega,by dsimp only;rw[k];omega⟩,?_⟩;refine fin _ _ 0 _ _ ?_ rfl;rw[a,if_neg oo,k]
   ·have f:65536 < n:=od u;exact fin [] 0 10 _ _ (by rw[a,if_pos (.inr (.inl f))]) rfl
  ·have d:n < 0:=od q;exact fin [] 0 10 _ _ (by rw[a,if_pos (.inl d)]) rfl
