import Derived.Test.YtfnkamphhpldcaaGreatDoorK08
import Derived.Test.YtfnkamphhpldcaaGreatDoorProg
import Derived.KernelRfl
set_option maxHeartbeats 64000000
namespace Sx
open Go
def hO{α:Type}(e:α->List SA):Prop:=∀x,∀a∈e x,a.z=true
variable {α:Type}{e:α->List SA}
theorem nI(d:hO e){μ:Mu}(b:∀k,μ 0 k=(0,k))(l:List α):(l.map e).map (List.map (SA.ren μ))=l.map e:=by
 rw[jq];exact jp fun x _=>ft (fun a c=>SA.ren_id (.inl (d x a c)) b)
theorem dt(b:hO e){μ:Mu}(a:∀k,μ 0 k=(0,k)){L:List (List SA)}{l:List α}(h:L=l.map e)(t sz c:Nat):(SB.arr t sz L c).ren μ=SB.arr t sz (l.map e) c:=by
 subst h;show SB.arr t sz ((l.map e).map (List.map (SA.ren μ))) c=_;rw[nI b a]
theorem dv(d:hO e){n:Nat}(f:1<=n)(t sz c:Nat)(l:List α):(SB.arr t sz (l.map e) c).below n:=by
 intro x g a b;obtain⟨y,_,rfl⟩:=qz.1 g;exact SA.below_mono f (SA.z_below (d y a b))
theorem yea(b:hO e){μ:Mu}(a:∀k,μ 0 k=(0,k))(t sz c:Nat)(l:List α):(gE t sz e c l).ren μ=gE t sz e c l:=by
 show Ent.opt _ (SB.ren μ _)=_;rw[dt b a rfl];rfl
theorem bP(a:hO e){n:Nat}(b:1<=n)(t sz c:Nat)(l:List α):(gE t sz e c l).below n:=dv a b t sz c l
theorem cQ(b:hO e){t sz c:Nat}{μ:Mu}(a:∀k,μ 0 k=(0,k)){l:List α}{x:Option Ent}(h:subE x (gE t sz e c l)):subE x ((gE t sz e c l).ren μ):=by rw[yea b a];exact h
abbrev ZC:={ y:List SA // ∀a∈y,a.z=true }
def encZ(y:ZC):List SA:=y.1
theorem aD:hO encZ:=fun x=>x.2
theorem Sl.z{F:Fz}{t sz:Nat}{enc:α->List SA}{a:SA}{l:List α}(h:Sl F t sz enc a l):a.z=true:=by
 obtain⟨nil,b,e,cap,L,c,rfl,_⟩:=h;rfl
theorem SlR.nil{F:Fz}{t sz:Nat}{R:List SA->α->Prop}:SlR F t sz R (.slice true 0 0 0 sz 0 0) []:=⟨true,0,0,0,[],0,rfl,fun _=>rfl,(fun h=>nomatch h),by simp,fun k x h=>by simp at h⟩
end Sx
namespace Go.Proofs.YtfnkamphhpldcaaGreatDoor
open Go Sx Tryz Tryz
set_option maxRecDepth 100000
theorem tk{t:TypeId}{i:TI}(a:prog.underlying t=some i.d)(f:TypeInfo)(b:prog.info? t=some f:=by kernel_rfl)(c:f.size=i.size:=by kernel_rfl)(d:f.bytes=i.bytes:=by kernel_rfl)(e:∀ρ,f.zero=some (zval ρ i):=by exact fun _=>rfl)
    (g:i.zero.length=i.size:=by rfl)(h:i.zero.all pF=true:=by rfl)(k:(aggD i.d||Nat.beq i.size 1)=true:=by rfl):TI.ok prog t i:=⟨a,⟨f,b,c,d,e⟩,g,rT h,ydo k⟩
noncomputable def ti1:TI:=⟨t1.desc,1,8,[.nilfn]⟩
noncomputable def ti2:TI:=⟨t2.desc,1,8,[.int .i64 0]⟩
noncomputable def ti3:TI:=⟨t3.desc,1,8,[.int .i64 0]⟩
noncomputable def ti4:TI:=⟨t4.desc,1,1,[.lit false]⟩
noncomputable def ti5:TI:=⟨t5.desc,1,1,[.int .u8 0]⟩
noncomputable def ti6:TI:=⟨t5.desc,1,1,[.int .u8 0]⟩
noncomputable def ti7:TI:=⟨t7.desc,4,24,[.int .i64 0,.int .i64 0,.lit false,.int .u8 0]⟩
noncomputable def ti8:TI:=⟨t7.desc,4,24,[.int .i64 0,.int .i64 0,.lit false,.int .u8 0]⟩
noncomputable def ti9:TI:=⟨t9.desc,1,16,[.str []]⟩
noncomputable def ti16:TI:=⟨t16.desc,1,8,[.nilptr]⟩
noncomputable def ti20:TI:=⟨t20.desc,1,16,[.nilif]⟩
noncomputable def ti21:TI:=⟨t21.desc,1,4,[.int .i32 0]⟩
noncomputable def ti22:TI:=⟨t22.desc,1,24,[.nilsl]⟩
noncomputable def ti23:TI:=⟨t23.desc,1,24,[.nilsl]⟩
noncomputable def ti24:TI:=⟨t24.desc,2,16,[.int .i64 0,.int .i64 0]⟩
noncomputable def ti25:TI:=⟨t25.desc,1,24,[.nilsl]⟩
noncomputable def ti27:TI:=⟨t26.desc,5,88,[.nilsl,.nilsl,.int .i64 0,.int .i64 0,.nilsl]⟩
noncomputable def ti28:TI:=⟨t28.desc,5,40,[.int .i64 0,.int .i64 0,.int .i64 0,.int .i64 0,.int .i64 0]⟩
noncomputable def ti30:TI:=⟨t30.desc,1,24,[.nilsl]⟩
noncomputable def ti32:TI:=⟨t31.desc,5,56,[.int .i64 0,.int .i64 0,.int .i64 0,.lit false,.nilsl]⟩
noncomputable def ti34:TI:=⟨t34.desc,1,24,[.nilsl]⟩
noncomputable def ti35:TI:=⟨t3.desc,1,8,[.int .i64 0]⟩
noncomputable def ti38:TI:=⟨t38.desc,1,24,[.nilsl]⟩
noncomputable def ti39:TI:=⟨t39.desc,1,24,[.nilsl]⟩
noncomputable def ti41:TI:=⟨t40.desc,4,72,[.nilsl,.nilsl,.int .i64 0,.str []]⟩
noncomputable def ti43:TI:=⟨t43.desc,1,24,[.nilsl]⟩
noncomputable def ti48:TI:=⟨t47.desc,4,64,[.str [],.str [],.int .i64 0,.nilsl]⟩
noncomputable def ti50:TI:=⟨t50.desc,1,24,[.nilsl]⟩
noncomputable def ti52:TI:=⟨t51.desc,2,32,[.int .i64 0,.nilsl]⟩
noncomputable def ti56:TI:=⟨t55.desc,2,16,[.int .i64 0,.int .i64 0]⟩
noncomputable def ti63:TI:=⟨t63.desc,1,24,[.nilsl]⟩
noncomputable def ti64:TI:=⟨t64.desc,1,24,[.nilsl]⟩
noncomputable def ti65:TI:=⟨t65.desc,1,24,[.nilsl]⟩
noncomputable def ti70:TI:=⟨t70.desc,1,24,[.nilsl]⟩
noncomputable def ti76:TI:=⟨t76.desc,1,24,[.nilsl]⟩
noncomputable def ti81:TI:=⟨t81.desc,1,24,[.nilsl]⟩
noncomputable def ti90:TI:=⟨t90.desc,1,8,[.nilfn]⟩
noncomputable def ti91:TI:=⟨t91.desc,1,8,[.nilfn]⟩
noncomputable def ti96:TI:=⟨t51.desc,2,32,[.int .i64 0,.nilsl]⟩
noncomputable def ti99:TI:=⟨t99.desc,1,24,[.nilsl]⟩
noncomputable def ti100:TI:=⟨t100.desc,1,24,[.nilsl]⟩
noncomputable def ti105:TI:=⟨t104.desc,5,56,[.int .i64 0,.int .i64 0,.int .i64 0,.lit false,.nilsl]⟩
noncomputable def ti117:TI:=⟨t117.desc,1,8,[.nilfn]⟩
noncomputable def ti121:TI:=⟨t121.desc,1,8,[.nilfn]⟩
noncomputable def ti125:TI:=⟨t124.desc,1,16,[.nilif]⟩
noncomputable def ti128:TI:=⟨t128.desc,1,8,[.nilfn]⟩
noncomputable def ti135:TI:=⟨t135.desc,2,32,[.str [],.str []]⟩
noncomputable def ti137:TI:=⟨t137.desc,1,8,[.nilptr]⟩
noncomputable def ti139:TI:=⟨t138.desc,2,24,[.str [],.int .i64 0]⟩
noncomputable def ti148:TI:=⟨t147.desc,2,24,[.str [],.int .i64 0]⟩
noncomputable def ti151:TI:=⟨t150.desc,6,48,[.int .i64 0,.int .i64 0,.lit false,.int .i64 0,.int .i64 0,.int .i64 0]⟩
noncomputable def ti153:TI:=⟨t153.desc,1,8,[.nilptr]⟩
noncomputable def ti156:TI:=⟨t156.desc,1,8,[.nilfn]⟩
noncomputable def ti158:TI:=⟨t158.desc,1,8,[.nilfn]⟩
noncomputable def ti160:TI:=⟨t160.desc,1,8,[.nilptr]⟩
noncomputable def ti165:TI:=⟨t165.desc,1,8,[.nilfn]⟩
noncomputable def ti167:TI:=⟨t167.desc,1,8,[.nilmap]⟩
noncomputable def ti170:TI:=⟨t170.desc,1,8,[.nilptr]⟩
noncomputable def ti172:TI:=⟨t171.desc,2,32,[.nilptr,.nilsl]⟩
noncomputable def ti174:TI:=⟨t173.desc,2,32,[.nilptr,.nilsl]⟩
noncomputable def ti176:TI:=⟨t175.desc,4,72,[.nilsl,.nilsl,.int .i64 0,.str []]⟩
noncomputable def ti177:TI:=⟨t177.desc,3,24,[.int .i64 0,.int .i64 0,.int .i64 0]⟩
noncomputable def ti178:TI:=⟨t178.desc,1,8,[.nilfn]⟩
noncomputable def ti184:TI:=⟨t183.desc,1,8,[.nilfn]⟩
noncomputable def ti196:TI:=⟨t196.desc,1,8,[.nilptr]⟩
noncomputable def ti197:TI:=⟨t197.desc,1,8,[.nilptr]⟩
noncomputable def ti199:TI:=⟨t199.desc,1,24,[.nilsl]⟩
noncomputable def ti201:TI:=⟨t200.desc,5,64,[.lit false,.nilsl,.int .i64 0,.int .i64 0,.str []]⟩
noncomputable def ti203:TI:=⟨t203.desc,1,8,[.nilfn]⟩
noncomputable def ti205:TI:=⟨t204.desc,3,40,[.nilsl,.nilfn,.nilfn]⟩
noncomputable def ti206:TI:=⟨t206.desc,21,280,[.nilsl,.nilfn,.nilfn,.nilsl,.nilfn,.nilfn,.nilsl,.nilfn,.nilfn,.nilsl,.nilfn,.nilfn,.nilsl,.nilfn,.nilfn,.nilsl,.nilfn,.nilfn,.nilsl,.nilfn,.nilfn]⟩
noncomputable def ti208:TI:=⟨t208.desc,1,8,[.nilptr]⟩
noncomputable def ti213:TI:=⟨t3.desc,1,8,[.int .i64 0]⟩
noncomputable def ti217:TI:=⟨t216.desc,1,8,[.nilfn]⟩
noncomputable def ti219:TI:=⟨t219.desc,1,8,[.int .u64 0]⟩
noncomputable def ti220:TI:=⟨t220.desc,1,8,[.int .u64 0]⟩
noncomputable def ti224:TI:=⟨t224.desc,1,8,[.nilfn]⟩
noncomputable def ti226:TI:=⟨t226.desc,1,8,[.nilfn]⟩
noncomputable def ti228:TI:=⟨t227.desc,2,24,[.str [],.int .i64 0]⟩
noncomputable def ti231:TI:=⟨t231.desc,1,4,[.int .u32 0]⟩
noncomputable def ti232:TI:=⟨t232.desc,1,24,[.nilsl]⟩
noncomputable def ti238:TI:=⟨t238.desc,1,8,[.nilptr]⟩
noncomputable def ti240:TI:=⟨t240.desc,1,8,[.nilmap]⟩
noncomputable def ti243:TI:=⟨t243.desc,1,8,[.nilfn]⟩
noncomputable def ti246:TI:=⟨t245.desc,8,32,[.int .u32 0,.int .u32 0,.int .u32 0,.int .u32 0,.int .u32 0,.int .u32 0,.int .u32 0,.int .u32 0]⟩
noncomputable def ti248:TI:=⟨t247.desc,1,8,[.nilfn]⟩
noncomputable def ti251:TI:=⟨t251.desc,1,8,[.nilfn]⟩
noncomputable def ti254:TI:=⟨t254.desc,1,8,[.nilfn]⟩
noncomputable def ti255:TI:=⟨t255.desc,1,8,[.nilptr]⟩
noncomputable def ti256:TI:=⟨t256.desc,2,24,[.str [],.int .i64 0]⟩
noncomputable def ti257:TI:=⟨t256.desc,2,24,[.str [],.int .i64 0]⟩
noncomputable def ti259:TI:=⟨t258.desc,2,40,[.str [],.nilsl]⟩
noncomputable def ti262:TI:=⟨t262.desc,1,8,[.nilfn]⟩
noncomputable def ti264:TI:=⟨t264.desc,1,8,[.nilptr]⟩
noncomputable def ti265:TI:=⟨t265.desc,7,168,[.nilsl,.nilsl,.nilsl,.nilsl,.nilsl,.nilsl,.nilsl]⟩
noncomputable def ti268:TI:=⟨t267.desc,1,16,[.nilif]⟩
noncomputable def ti275:TI:=⟨t275.desc,1,8,[.nilfn]⟩
noncomputable def ti276:TI:=⟨t276.desc,1,8,[.nilfn]⟩
noncomputable def ti285:TI:=⟨t285.desc,1,8,[.nilfn]⟩
noncomputable def ti286:TI:=⟨t286.desc,1,8,[.nilptr]⟩
noncomputable def ti287:TI:=⟨t287.desc,64,256,[.int .u32 0,.int .u32 0,.int .u32 0,.int .u32 0,.int .u32 0,.int .u32 0,.int .u32 0,.int .u32 0,.int .u32 0,.int .u32 0,.int .u32 0,.int .u32 0,.int .u32 0,.int .u32 0,.int .u32 0,.int .u32 0,.int .u32 0,.int .u32 0,.int .u32 0,.int .u32 0,.int .u32 0,.int .u32 0,.int .u32 0,.int .u32 0,.int .u32 0,.int .u32 0,.int .u32 0,.int .u32 0,.int .u32 0,.int .u32 0,.int .u32 0,.int .u32 0,.int .u32 0,.int .u32 0,.int .u32 0,.int .u32 0,.int .u32 0,.int .u32 0,.int .u32 0,.int .u32 0,.int .u32 0,.int .u32 0,.int .u32 0,.int .u32 0,.int .u32 0,.int .u32 0,.int .u32 0,.int .u32 0,.int .u32 0,.int .u32 0,.int .u32 0,.int .u32 0,.int .u32 0,.int .u32 0,.int .u32 0,.int .u32 0,.int .u32 0,.int .u32 0,.int .u32 0,.int .u32 0,.int .u32 0,.int .u32 0,.int .u32 0,.int .u32 0]⟩
noncomputable def ti290:TI:=⟨t290.desc,32,32,[.int .u8 0,.int .u8 0,.int .u8 0,.int .u8 0,.int .u8 0,.int .u8 0,.int .u8 0,.int .u8 0,.int .u8 0,.int .u8 0,.int .u8 0,.int .u8 0,.int .u8 0,.int .u8 0,.int .u8 0,.int .u8 0,.int .u8 0,.int .u8 0,.int .u8 0,.int .u8 0,.int .u8 0,.int .u8 0,.int .u8 0,.int .u8 0,.int .u8 0,.int .u8 0,.int .u8 0,.int .u8 0,.int .u8 0,.int .u8 0,.int .u8 0,.int .u8 0]⟩
noncomputable def ti299:TI:=⟨t299.desc,1,8,[.nilptr]⟩
noncomputable def ti317:TI:=⟨t317.desc,1,24,[.nilsl]⟩
noncomputable def ti326:TI:=⟨t326.desc,6,48,[.int .i64 0,.int .i64 0,.int .i64 0,.int .i64 0,.int .i64 0,.int .i64 0]⟩
noncomputable def ti329:TI:=⟨t329.desc,1,8,[.nilfn]⟩
noncomputable def ti334:TI:=⟨t334.desc,1,8,[.nilptr]⟩
noncomputable def ti347:TI:=⟨t346.desc,2,2,[.int .u8 0,.int .u8 0]⟩
noncomputable def ti348:TI:=⟨t348.desc,32,32,[.int .u8 0,.int .u8 0,.int .u8 0,.int .u8 0,.int .u8 0,.int .u8 0,.int .u8 0,.int .u8 0,.int .u8 0,.int .u8 0,.int .u8 0,.int .u8 0,.int .u8 0,.int .u8 0,.int .u8 0,.int .u8 0,.int .u8 0,.int .u8 0,.int .u8 0,.int .u8 0,.int .u8 0,.int .u8 0,.int .u8 0,.int .u8 0,.int .u8 0,.int .u8 0,.int .u8 0,.int .u8 0,.int .u8 0,.int .u8 0,.int .u8 0,.int .u8 0]⟩
noncomputable def ti353:TI:=⟨t353.desc,1,24,[.nilsl]⟩
noncomputable def ti355:TI:=⟨t355.desc,1,8,[.nilptr]⟩
noncomputable def ti360:TI:=⟨t359.desc,3,12,[.int .i32 0,.int .i32 0,.int .i32 0]⟩
noncomputable def ti362:TI:=⟨t361.desc,5,20,[.int .u32 0,.int .u32 0,.int .i32 0,.int .i32 0,.int .i32 0]⟩
noncomputable def ti365:TI:=⟨t365.desc,0,0,[]⟩
noncomputable def ti367:TI:=⟨t366.desc,0,0,[]⟩
noncomputable def tab:Tr:=(.node 167 (.node 50 (.node 23 (.node 7 (.node 3 (.leaf [(1,ti1),(2,ti2),(3,ti3)]) (.leaf [(4,ti4),(5,ti5),(6,ti6),(7,ti7)])) (.node 16 (.leaf [(8,ti8),(9,ti9),(16,ti16)]) (.leaf [(20,ti20),(21,ti21),(22,ti22),(23,ti23)]))) (.node 34 (.node 27 (.leaf [(24,ti24),(25,ti25),(27,ti27)]) (.leaf [(28,ti28),(30,ti30),(32,ti32),(34,ti34)])) (.node 39 (.leaf [(35,ti35),(38,ti38),(39,ti39)]) (.leaf [(41,ti41),(43,ti43),(48,ti48),(50,ti50)])))) (.node 105 (.node 76 (.node 63 (.leaf [(52,ti52),(56,ti56),(63,ti63)]) (.leaf [(64,ti64),(65,ti65),(70,ti70),(76,ti76)])) (.node 91 (.leaf [(81,ti81),(90,ti90),(91,ti91)]) (.leaf [(96,ti96),(99,ti99),(100,ti100),(105,ti105)]))) (.node 139 (.node 125 (.leaf [(117,ti117),(121,ti121),(125,ti125)]) (.leaf [(128,ti128),(135,ti135),(137,ti137),(139,ti139)])) (.node 156 (.leaf [(148,ti148),(151,ti151),(153,ti153),(156,ti156)]) (.leaf [(158,ti158),(160,ti160),(165,ti165),(167,ti167)]))))) (.node 248 (.node 206 (.node 184 (.node 174 (.leaf [(170,ti170),(172,ti172),(174,ti174)]) (.leaf [(176,ti176),(177,ti177),(178,ti178),(184,ti184)])) (.node 199 (.leaf [(196,ti196),(197,ti197),(199,ti199)]) (.leaf [(201,ti201),(203,ti203),(205,ti205),(206,ti206)]))) (.node 226 (.node 217 (.leaf [(208,ti208),(213,ti213),(217,ti217)]) (.leaf [(219,ti219),(220,ti220),(224,ti224),(226,ti226)])) (.node 238 (.leaf [(228,ti228),(231,ti231),(232,ti232),(238,ti238)]) (.leaf [(240,ti240),(243,ti243),(246,ti246),(248,ti248)])))) (.node 286 (.node 262 (.node 255 (.leaf [(251,ti251),(254,ti254),(255,ti255)]) (.leaf [(256,ti256),(257,ti257),(259,ti259),(262,ti262)])) (.node 268 (.leaf [(264,ti264),(265,ti265),(268,ti268)]) (.leaf [(275,ti275),(276,ti276),(285,ti285),(286,ti286)]))) (.node 334 (.node 299 (.leaf [(287,ti287),(290,ti290),(299,ti299)]) (.leaf [(317,ti317),(326,ti326),(329,ti329),(334,ti334)])) (.node 355 (.leaf [(347,ti347),(348,ti348),(353,ti353),(355,ti355)]) (.leaf [(360,ti360),(362,ti362),(365,ti365),(367,ti367)]))))))
noncomputable def Θ:Tys:=tab.get
theorem hΘ:Tys.Ok prog Θ:=Tr.ok tab ⟨⟨⟨⟨⟨⟨tk underlying1 t1,tk underlying2 t2,tk underlying3 t3,trivial⟩,⟨tk underlying4 t4,tk underlying5 t5,tk underlying6 t6,tk underlying7 t7,trivial⟩⟩,⟨⟨tk underlying8 t8,tk underlying9 t9,tk underlying16 t16,trivial⟩,⟨tk underlying20 t20,tk underlying21 t21,tk underlying22 t22,tk underlying23 t23,trivial⟩⟩⟩,⟨⟨⟨tk underlying24 t24,tk underlying25 t25,tk underlying27 t27,trivial⟩,⟨tk underlying28 t28,tk underlying30 t30,tk underlying32 t32,tk underlying34 t34,trivial⟩⟩,⟨⟨tk underlying35 t35,tk underlying38 t38,tk underlying39 t39,trivial⟩,⟨tk underlying41 t41,tk underlying43 t43,tk underlying48 t48,tk underlying50 t50,trivial⟩⟩⟩⟩,⟨⟨⟨⟨tk underlying52 t52,tk underlying56 t56,tk underlying63 t63,trivial⟩,⟨tk underlying64 t64,tk underlying65 t65,tk underlying70 t70,tk underlying76 t76,trivial⟩⟩,⟨⟨tk underlying81 t81,tk underlying90 t90,tk underlying91 t91,trivial⟩,⟨tk underlying96 t96,tk underlying99 t99,tk underlying100 t100,tk underlying105 t105,trivial⟩⟩⟩,⟨⟨⟨tk underlying117 t117,tk underlying121 t121,tk underlying125 t125,trivial⟩,⟨tk underlying128 t128,tk underlying135 t135,tk underlying137 t137,tk underlying139 t139,trivial⟩⟩,⟨⟨tk underlying148 t148,tk underlying151 t151,tk underlying153 t153,tk underlying156 t156,trivial⟩,⟨tk underlying158 t158,tk underlying160 t160,tk underlying165 t165,tk underlying167 t167,trivial⟩⟩⟩⟩⟩,⟨⟨⟨⟨⟨tk underlying170 t170,tk underlying172 t172,tk underlying174 t174,trivial⟩,⟨tk underlying176 t176,tk underlying177 t177,tk underlying178 t178,tk underlying184 t184,trivial⟩⟩,⟨⟨tk underlying196 t196,tk underlying197 t197,tk underlying199 t199,trivial⟩,⟨tk underlying201 t201,tk underlying203 t203,tk underlying205 t205,tk underlying206 t206,trivial⟩⟩⟩,⟨⟨⟨tk underlying208 t208,tk underlying213 t213,tk underlying217 t217,trivial⟩,⟨tk underlying219 t219,tk underlying220 t220,tk underlying224 t224,tk underlying226 t226,trivial⟩⟩,⟨⟨tk underlying228 t228,tk underlying231 t231,tk underlying232 t232,tk underlying238 t238,trivial⟩,⟨tk underlying240 t240,tk underlying243 t243,tk underlying246 t246,tk underlying248 t248,trivial⟩⟩⟩⟩,⟨⟨⟨⟨tk underlying251 t251,tk underlying254 t254,tk underlying255 t255,trivial⟩,⟨tk underlying256 t256,tk underlying257 t257,tk underlying259 t259,tk underlying262 t262,trivial⟩⟩,⟨⟨tk underlying264 t264,tk underlying265 t265,tk underlying268 t268,trivial⟩,⟨tk underlying275 t275,tk underlying276 t276,tk underlying285 t285,tk underlying286 t286,trivial⟩⟩⟩,⟨⟨⟨tk underlying287 t287,tk underlying290 t290,tk underlying299 t299,trivial⟩,⟨tk underlying317 t317,tk underlying326 t326,tk underlying329 t329,tk underlying334 t334,trivial⟩⟩,⟨⟨tk underlying347 t347,tk underlying348 t348,tk underlying353 t353,tk underlying355 t355,trivial⟩,⟨tk underlying360 t360,tk underlying362 t362,tk underlying365 t365,tk underlying367 t367,trivial⟩⟩⟩⟩⟩⟩
end Go.Proofs.YtfnkamphhpldcaaGreatDoor
namespace Go.Proofs.YtfnkamphhpldcaaGreatDoor
open Go Sx Tryz
set_option maxRecDepth 100000
theorem mixed:prog.follows .mixedOrders=true:=by kernel_rfl
section
variable {f:FuncId} {fn:Func} {c:Code} {args:List SV} {F:Fz} {nt:Nat} {rs:List ResultVar}
theorem foS{Q:Out->Fz->Prop}(e:prog.funcs[f]? =some fn)(i:sx prog Θ c ⟨[dV 0 args],[[(0,.frz F)]],1,1,nt,[]⟩ (endQ Θ rs (Cln 1 (FoK F Q))))
  (d:fn.body=some c:=by exact rfl)(h:(fn.name== "runtime.NumGoroutine")=false:=by decide)(a:fn.ntmps=nt:=by exact rfl)(b:fn.results.toList=rs:=by exact rfl)(g:Nat.ble args.length nt=true:=by exact rfl):Fo prog F f args Q:=fo_of hΘ e d h nt rs a b g i
theorem ctS{g:List (Nat×Ent)}{n:Nat}{e:Out->Fz->List (Nat×Ent)->Nat->Prop}(j:prog.funcs[f]? =some fn)(m:sx prog Θ c ⟨[dV 0 args],[(0,.frz F)::g],n,n,nt,[]⟩ (endQ Θ rs (Cln n (fun o d h n0=>Fz.le F d/\e o d h n0))))
  (i:fn.body=some c:=by exact rfl)(l:(fn.name== "runtime.NumGoroutine")=false:=by decide)(a:fn.ntmps=nt:=by exact rfl)(b:fn.results.toList=rs:=by exact rfl)(k:Nat.ble args.length nt=true:=by exact rfl):Ct prog f args F g n e:=ct_of hΘ j i l nt rs a b k m
theorem dwS{Q:SE->St->Prop}{id:Nat}{a:List Oper}{d:St}(b:Pn)(ids:List Nat)(g:splan prog Θ ids a Q b d)(e:(Region.noSelect a.toArray&&dR a.toArray false b a.length (Array.replicate a.length false))=true:=by kernel_rfl):WP prog (.region id a.toArray true) d Q:=drawP hΘ mixed b ids e g
theorem draS{Q:SE->St->Prop}{id:Nat}{a:List Oper}{d:St}(b:List (Nat×Bool))(ids:List Nat)(g:splan prog Θ ids a Q (kR b) d)(e:(Region.noSelect a.toArray&&dR a.toArray false (kR b) a.length (Array.replicate a.length false))=true:=by kernel_rfl):WP prog (.region id a.toArray true) d Q:=drawP hΘ mixed (kR b) ids e g
end
theorem A5:(prog.fieldsOf 56).toList=[⟨ "Kind",3,0,false, "", "",0⟩,⟨ "N",3,1,false, "", "",8⟩]:=by kernel_rfl
theorem agg50(a b c d:Int):AggEq prog 56 [.int .i64 a,.int .i64 b] [.int .i64 c,.int .i64 d] (decide (a=c)&&decide (b=d)):=by
 unfold AggEq;intro ρ w j x y;refine⟨run_eqGuard_agg _ _ _ _ _ _ _ Tryz.eqGuardType56,?_⟩;have h1:=run_equalIn_agg (P:=prog) w (9998+1) 56 #[.int .i64 a,.int .i64 b] #[.int .i64 c,.int .i64 d] (by kernel_rfl) Tryz.stoodInHeld56
 have h:(Op.eqFields (9998+1) #[Value.int .i64 a,.int .i64 b] #[Value.int .i64 c,.int .i64 d] (prog.fieldsOf 56).toList).run prog w=.ok (decide (a=c)&&decide (b=d)) w:=by
  rw[A5];have i:∀(u v:Int),(Op.equalIn (9998+1) 3 (.int .i64 u) (.int .i64 v)).run prog w=.ok (u==v) w:=fun u v=>run_equalIn_int w 9998 3 .i64 .i64 u v underlying3
  have q:(isAgg 3).run prog w=.ok false w:=Tryz.isAgg3 w;by_cases e:a=c<;>by_cases g:b=d<;>simp[Op.eqFields,part,q,i,e,g]
 exact h1.trans h
abbrev Stp:=Int×Int
def enc(s:Stp):List SA:=[.int .i64 s.1,.int .i64 s.2]
def encI(n:Int):List SA:=[.int .i64 n]
abbrev aW(F:Fz)(a:SA)(l:List Stp):Prop:=Sl F 56 2 enc a l
abbrev dX(F:Fz)(a:SA)(l:List Int):Prop:=Sl F 3 1 encI a l
theorem yA(μ:Mu)(l:List Stp):(l.map enc).map (List.map (SA.ren μ))=l.map enc:=by
 rw[jq];exact jp fun s _=>rfl
theorem AZ(μ:Mu)(l:List Int):(l.map encI).map (List.map (SA.ren μ))=l.map encI:=by
 rw[jq];exact jp fun s _=>rfl
theorem gO(μ:Mu)(l:List Stp)(c:Nat):(SB.arr 56 2 (l.map enc) c).ren μ=SB.arr 56 2 (l.map enc) c:=by
 show SB.arr 56 2 ((l.map enc).map (List.map (SA.ren μ))) c=_;rw[yA]
theorem ej(μ:Mu)(l:List Int)(c:Nat):(SB.arr 3 1 (l.map encI) c).ren μ=SB.arr 3 1 (l.map encI) c:=by
 show SB.arr 3 1 ((l.map encI).map (List.map (SA.ren μ))) c=_;rw[AZ]
theorem fJ(n:Nat)(l:List Stp)(c:Nat):(SB.arr 56 2 (l.map enc) c).below n:=by
 intro x d a b;obtain⟨s,_,rfl⟩:=qz.1 d;simp only[enc,qh,qq,or_false]at b;rcases b with rfl | rfl<;>trivial
theorem ef(n:Nat)(l:List Int)(c:Nat):(SB.arr 3 1 (l.map encI) c).below n:=by
 intro x d a b;obtain⟨s,_,rfl⟩:=qz.1 d;simp only[encI,qh,qq,or_false]at b;subst b;trivial
theorem aI{n:Int}(h1:-9223372036854775808<=n)(a:n<=9223372036854775807):IntKind.i64.wrap n=n:=IntWalk.i64_in _ oo
theorem cnt{k:Nat}(h:k < 4611686018427387904):SA.int .i64 ((k+1:Nat):Int)=SA.int .i64 (IntKind.i64.wrap ((k:Int)+1)):=by
 rw[aI oo oo];rfl
theorem neq_f{x y:Nat}(h:(!decide ((x:Int)=y))=false):x=y:=by
 simp at h;omega
theorem rx(F:Fz)(u w:SA)(a b:List Stp)(A:aW F u a)(D:aW F w b)(U:a.length < 1000000):
  Fo prog F 46 [.va u,.va w] (fun o i=>o=.ret (.va (.bool (decide (a=b))))/\i=F):=by
 obtain⟨V,K,Q,M,I,W,rfl,e,m,B,n⟩:=A;obtain⟨nb,L,R,O,J,Y,rfl,f,p,E,q⟩:=D
 have fin:∀(v:Bool) (h:Hp) (nx:Nat),v=decide (a=b)->lget h 0=some (.frz F)->
   Cln 1 (FoK F fun o i=>o=.ret (.va (.bool (decide (a=b))))/\i=F) (.ret (.va (.bool v))) h nx:=by
  intro v h nx G x;exact endPu x (Fz.r F) (by rw[G];rfl) rfl
 refine foS func46 ?_;refine br (fun g=>?_) (fun g=>?_)
 ·refine fin _ _ _ ?_ rfl;have:¬a=b:=by rintro rfl;simp at g
  simp[this]
 ·have S:a.length=b.length:=neq_f g
  conv=>whnf
  refine aH hΘ (X:={ k:Nat // k<=a.length/\a.take k=b.take k }) (fun k=>[(5,.va (.int .i64 k.1))]) (4::jr 11 15 []) (fz fun _=>F) 1 (fun k=>a.length - k.1) ⟨0,by simp⟩
   (fun j l=>le0 j l rfl (Fz.r F) rfl ⟨rfl,tv⟩) ?_
  rintro⟨k,T,s⟩ j l;refine br (fun g=>?_) (fun g=>?_)
  ·have g:k < a.length:=by simpa using g
   have d:k < b.length:=by omega
   refine draS [(0,true),(1,true),(2,true),(3,true),(4,true),(5,true),(6,true),(7,true),(8,true)] [] ?_;refine⟨Sl.lt e g,⟨by simp,by simpa using g⟩,rfl,_,m (Sl.lt e g),_,Sl.at n g,Sl.lt f d,⟨by simp,by simpa using d⟩,rfl,_,p (Sl.lt f d),_,Sl.at q d,_,agg50 _ _ _ _,?_⟩;refine br (fun c=>?_) (fun c=>?_)
   ·refine fin _ _ _ ?_ rfl;have:¬a=b:=by rintro rfl;simp at c
    simp[this]
   ·refine⟨⟨k+1,by omega,?_⟩,by show a.length - (k+1) < a.length - k;omega,lr0 j l rfl (Fz.r F) rfl ⟨cnt oo,tv⟩⟩
    have y:a[k]=b[k]:=by
     simp at c;exact Prod.ext c.1 c.2
    rw[qf g,qf d,s,y]
  ·refine fin _ _ _ ?_ rfl;have g:¬k < a.length:=by simpa using g
   have h1:a=b:=by
    rw[ql oo,ql oo]at s;exact s
   simp[h1]
