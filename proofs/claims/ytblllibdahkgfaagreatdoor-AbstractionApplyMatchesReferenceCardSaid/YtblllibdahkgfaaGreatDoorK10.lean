import Derived.Test.YtblllibdahkgfaaGreatDoorProg
import Derived.Test.YtblllibdahkgfaaGreatDoorK09
import Derived.KernelRfl
import Derived.Below
import Derived.ProofKit
import Derived.WalkKit
import Derived.RowKit
import Derived.OwnWalk
import Derived.Laws.AppendOwn

/- The table of the program's types, for the symbolic executor; each row is checked by the kernel. Written by a program (gentab.py). -/
namespace Go.Proofs.YtblllibdahkgfaaGreatDoor
open Go Sx
set_option maxRecDepth 100000
noncomputable def ti1 : TI := ⟨Go.Proofs.Tryz.t1.desc, 1, 8, [.nilfn]⟩
theorem zzj : TI.ok Tryz.prog 1 ti1 := ⟨Tryz.underlying1, ⟨Tryz.t1, by kernel_rfl, by kernel_rfl, by kernel_rfl, fun _ => rfl⟩, rfl, za2 rfl, za3 rfl⟩
noncomputable def ti2 : TI := ⟨Go.Proofs.Tryz.t2.desc, 1, 8, [.int .i64 0]⟩
theorem zzg : TI.ok Tryz.prog 2 ti2 := ⟨Tryz.underlying2, ⟨Tryz.t2, by kernel_rfl, by kernel_rfl, by kernel_rfl, fun _ => rfl⟩, rfl, za2 rfl, za3 rfl⟩
noncomputable def ti3 : TI := ⟨Go.Proofs.Tryz.t3.desc, 1, 8, [.int .i64 0]⟩
theorem zy9 : TI.ok Tryz.prog 3 ti3 := ⟨Tryz.underlying3, ⟨Tryz.t3, by kernel_rfl, by kernel_rfl, by kernel_rfl, fun _ => rfl⟩, rfl, za2 rfl, za3 rfl⟩
noncomputable def ti4 : TI := ⟨Go.Proofs.Tryz.t4.desc, 1, 1, [.lit false]⟩
theorem zyj : TI.ok Tryz.prog 4 ti4 := ⟨Tryz.underlying4, ⟨Tryz.t4, by kernel_rfl, by kernel_rfl, by kernel_rfl, fun _ => rfl⟩, rfl, za2 rfl, za3 rfl⟩
noncomputable def ti5 : TI := ⟨Go.Proofs.Tryz.t5.desc, 1, 1, [.int .u8 0]⟩
theorem zyp : TI.ok Tryz.prog 5 ti5 := ⟨Tryz.underlying5, ⟨Tryz.t5, by kernel_rfl, by kernel_rfl, by kernel_rfl, fun _ => rfl⟩, rfl, za2 rfl, za3 rfl⟩
noncomputable def ti6 : TI := ⟨Go.Proofs.Tryz.t5.desc, 1, 1, [.int .u8 0]⟩
theorem zy3 : TI.ok Tryz.prog 6 ti6 := ⟨Tryz.underlying6, ⟨Tryz.t6, by kernel_rfl, by kernel_rfl, by kernel_rfl, fun _ => rfl⟩, rfl, za2 rfl, za3 rfl⟩
noncomputable def ti7 : TI := ⟨Go.Proofs.Tryz.t7.desc, 4, 24, [.int .i64 0, .int .i64 0, .lit false, .int .u8 0]⟩
theorem zyi : TI.ok Tryz.prog 7 ti7 := ⟨Tryz.underlying7, ⟨Tryz.t7, by kernel_rfl, by kernel_rfl, by kernel_rfl, fun _ => rfl⟩, rfl, za2 rfl, za3 rfl⟩
noncomputable def ti9 : TI := ⟨Go.Proofs.Tryz.t9.desc, 1, 16, [.str []]⟩
theorem zzm : TI.ok Tryz.prog 9 ti9 := ⟨Tryz.underlying9, ⟨Tryz.t9, by kernel_rfl, by kernel_rfl, by kernel_rfl, fun _ => rfl⟩, rfl, za2 rfl, za3 rfl⟩
noncomputable def ti16 : TI := ⟨Go.Proofs.Tryz.t16.desc, 1, 8, [.nilptr]⟩
theorem zxp : TI.ok Tryz.prog 16 ti16 := ⟨Tryz.underlying16, ⟨Tryz.t16, by kernel_rfl, by kernel_rfl, by kernel_rfl, fun _ => rfl⟩, rfl, za2 rfl, za3 rfl⟩
noncomputable def ti20 : TI := ⟨Go.Proofs.Tryz.t20.desc, 1, 16, [.nilif]⟩
theorem zxg : TI.ok Tryz.prog 20 ti20 := ⟨Tryz.underlying20, ⟨Tryz.t20, by kernel_rfl, by kernel_rfl, by kernel_rfl, fun _ => rfl⟩, rfl, za2 rfl, za3 rfl⟩
noncomputable def ti21 : TI := ⟨Go.Proofs.Tryz.t21.desc, 1, 4, [.int .i32 0]⟩
theorem zxi : TI.ok Tryz.prog 21 ti21 := ⟨Tryz.underlying21, ⟨Tryz.t21, by kernel_rfl, by kernel_rfl, by kernel_rfl, fun _ => rfl⟩, rfl, za2 rfl, za3 rfl⟩
noncomputable def ti22 : TI := ⟨Go.Proofs.Tryz.t22.desc, 1, 24, [.nilsl]⟩
theorem zw9 : TI.ok Tryz.prog 22 ti22 := ⟨Tryz.underlying22, ⟨Tryz.t22, by kernel_rfl, by kernel_rfl, by kernel_rfl, fun _ => rfl⟩, rfl, za2 rfl, za3 rfl⟩
noncomputable def ti23 : TI := ⟨Go.Proofs.Tryz.t23.desc, 1, 24, [.nilsl]⟩
theorem zxm : TI.ok Tryz.prog 23 ti23 := ⟨Tryz.underlying23, ⟨Tryz.t23, by kernel_rfl, by kernel_rfl, by kernel_rfl, fun _ => rfl⟩, rfl, za2 rfl, za3 rfl⟩
noncomputable def ti28 : TI := ⟨Go.Proofs.Tryz.t28.desc, 1, 24, [.nilsl]⟩
theorem zyf : TI.ok Tryz.prog 28 ti28 := ⟨Tryz.underlying28, ⟨Tryz.t28, by kernel_rfl, by kernel_rfl, by kernel_rfl, fun _ => rfl⟩, rfl, za2 rfl, za3 rfl⟩
noncomputable def ti29 : TI := ⟨Go.Proofs.Tryz.t3.desc, 1, 8, [.int .i64 0]⟩
theorem zxo : TI.ok Tryz.prog 29 ti29 := ⟨Tryz.underlying29, ⟨Tryz.t29, by kernel_rfl, by kernel_rfl, by kernel_rfl, fun _ => rfl⟩, rfl, za2 rfl, za3 rfl⟩
noncomputable def ti37 : TI := ⟨Go.Proofs.Tryz.t37.desc, 1, 24, [.nilsl]⟩
theorem zx9 : TI.ok Tryz.prog 37 ti37 := ⟨Tryz.underlying37, ⟨Tryz.t37, by kernel_rfl, by kernel_rfl, by kernel_rfl, fun _ => rfl⟩, rfl, za2 rfl, za3 rfl⟩
noncomputable def ti40 : TI := ⟨Go.Proofs.Tryz.t40.desc, 1, 24, [.nilsl]⟩
theorem zye : TI.ok Tryz.prog 40 ti40 := ⟨Tryz.underlying40, ⟨Tryz.t40, by kernel_rfl, by kernel_rfl, by kernel_rfl, fun _ => rfl⟩, rfl, za2 rfl, za3 rfl⟩
noncomputable def ti41 : TI := ⟨Go.Proofs.Tryz.t41.desc, 1, 24, [.nilsl]⟩
theorem zwe : TI.ok Tryz.prog 41 ti41 := ⟨Tryz.underlying41, ⟨Tryz.t41, by kernel_rfl, by kernel_rfl, by kernel_rfl, fun _ => rfl⟩, rfl, za2 rfl, za3 rfl⟩
noncomputable def ti50 : TI := ⟨Go.Proofs.Tryz.t49.desc, 2, 16, [.int .i64 0, .int .i64 0]⟩
theorem zxe : TI.ok Tryz.prog 50 ti50 := ⟨Tryz.underlying50, ⟨Tryz.t50, by kernel_rfl, by kernel_rfl, by kernel_rfl, fun _ => rfl⟩, rfl, za2 rfl, za3 rfl⟩
noncomputable def ti55 : TI := ⟨Go.Proofs.Tryz.t55.desc, 1, 24, [.nilsl]⟩
theorem zxz : TI.ok Tryz.prog 55 ti55 := ⟨Tryz.underlying55, ⟨Tryz.t55, by kernel_rfl, by kernel_rfl, by kernel_rfl, fun _ => rfl⟩, rfl, za2 rfl, za3 rfl⟩
noncomputable def ti57 : TI := ⟨Go.Proofs.Tryz.t56.desc, 5, 64, [.lit false, .nilsl, .int .i64 0, .int .i64 0, .str []]⟩
theorem zwj : TI.ok Tryz.prog 57 ti57 := ⟨Tryz.underlying57, ⟨Tryz.t57, by kernel_rfl, by kernel_rfl, by kernel_rfl, fun _ => rfl⟩, rfl, za2 rfl, za3 rfl⟩
noncomputable def ti75 : TI := ⟨Go.Proofs.Tryz.t75.desc, 1, 8, [.nilfn]⟩
theorem zx2 : TI.ok Tryz.prog 75 ti75 := ⟨Tryz.underlying75, ⟨Tryz.t75, by kernel_rfl, by kernel_rfl, by kernel_rfl, fun _ => rfl⟩, rfl, za2 rfl, za3 rfl⟩
noncomputable def ti76 : TI := ⟨Go.Proofs.Tryz.t76.desc, 1, 8, [.nilfn]⟩
theorem zxq : TI.ok Tryz.prog 76 ti76 := ⟨Tryz.underlying76, ⟨Tryz.t76, by kernel_rfl, by kernel_rfl, by kernel_rfl, fun _ => rfl⟩, rfl, za2 rfl, za3 rfl⟩
noncomputable def ti78 : TI := ⟨Go.Proofs.Tryz.t77.desc, 3, 40, [.nilsl, .nilfn, .nilfn]⟩
theorem zx8 : TI.ok Tryz.prog 78 ti78 := ⟨Tryz.underlying78, ⟨Tryz.t78, by kernel_rfl, by kernel_rfl, by kernel_rfl, fun _ => rfl⟩, rfl, za2 rfl, za3 rfl⟩
noncomputable def ti79 : TI := ⟨Go.Proofs.Tryz.t79.desc, 21, 280, [.nilsl, .nilfn, .nilfn, .nilsl, .nilfn, .nilfn, .nilsl, .nilfn, .nilfn, .nilsl, .nilfn, .nilfn, .nilsl, .nilfn, .nilfn, .nilsl, .nilfn, .nilfn, .nilsl, .nilfn, .nilfn]⟩
theorem zw5 : TI.ok Tryz.prog 79 ti79 := ⟨Tryz.underlying79, ⟨Tryz.t79, by kernel_rfl, by kernel_rfl, by kernel_rfl, fun _ => rfl⟩, rfl, za2 rfl, za3 rfl⟩
noncomputable def ti84 : TI := ⟨Go.Proofs.Tryz.t84.desc, 1, 8, [.nilfn]⟩
theorem zxa : TI.ok Tryz.prog 84 ti84 := ⟨Tryz.underlying84, ⟨Tryz.t84, by kernel_rfl, by kernel_rfl, by kernel_rfl, fun _ => rfl⟩, rfl, za2 rfl, za3 rfl⟩
noncomputable def ti86 : TI := ⟨Go.Proofs.Tryz.t86.desc, 4, 32, [.int .i64 0, .int .i64 0, .int .i64 0, .int .i64 0]⟩
theorem zx5 : TI.ok Tryz.prog 86 ti86 := ⟨Tryz.underlying86, ⟨Tryz.t86, by kernel_rfl, by kernel_rfl, by kernel_rfl, fun _ => rfl⟩, rfl, za2 rfl, za3 rfl⟩
noncomputable def ti88 : TI := ⟨Go.Proofs.Tryz.t87.desc, 5, 48, [.str [], .int .i64 0, .int .i64 0, .int .i64 0, .int .i64 0]⟩
theorem zws : TI.ok Tryz.prog 88 ti88 := ⟨Tryz.underlying88, ⟨Tryz.t88, by kernel_rfl, by kernel_rfl, by kernel_rfl, fun _ => rfl⟩, rfl, za2 rfl, za3 rfl⟩
noncomputable def ti91 : TI := ⟨Go.Proofs.Tryz.t91.desc, 1, 8, [.nilptr]⟩
theorem zxy : TI.ok Tryz.prog 91 ti91 := ⟨Tryz.underlying91, ⟨Tryz.t91, by kernel_rfl, by kernel_rfl, by kernel_rfl, fun _ => rfl⟩, rfl, za2 rfl, za3 rfl⟩
noncomputable def ti92 : TI := ⟨Go.Proofs.Tryz.t92.desc, 1, 8, [.nilptr]⟩
theorem zx4 : TI.ok Tryz.prog 92 ti92 := ⟨Tryz.underlying92, ⟨Tryz.t92, by kernel_rfl, by kernel_rfl, by kernel_rfl, fun _ => rfl⟩, rfl, za2 rfl, za3 rfl⟩
noncomputable def ti94 : TI := ⟨Go.Proofs.Tryz.t94.desc, 1, 24, [.nilsl]⟩
theorem zyd : TI.ok Tryz.prog 94 ti94 := ⟨Tryz.underlying94, ⟨Tryz.t94, by kernel_rfl, by kernel_rfl, by kernel_rfl, fun _ => rfl⟩, rfl, za2 rfl, za3 rfl⟩
noncomputable def ti96 : TI := ⟨Go.Proofs.Tryz.t95.desc, 5, 64, [.lit false, .nilsl, .int .i64 0, .int .i64 0, .str []]⟩
theorem zxu : TI.ok Tryz.prog 96 ti96 := ⟨Tryz.underlying96, ⟨Tryz.t96, by kernel_rfl, by kernel_rfl, by kernel_rfl, fun _ => rfl⟩, rfl, za2 rfl, za3 rfl⟩
noncomputable def ti98 : TI := ⟨Go.Proofs.Tryz.t98.desc, 1, 8, [.nilptr]⟩
theorem zxb : TI.ok Tryz.prog 98 ti98 := ⟨Tryz.underlying98, ⟨Tryz.t98, by kernel_rfl, by kernel_rfl, by kernel_rfl, fun _ => rfl⟩, rfl, za2 rfl, za3 rfl⟩
noncomputable def ti100 : TI := ⟨Go.Proofs.Tryz.t100.desc, 1, 8, [.nilptr]⟩
theorem zvp : TI.ok Tryz.prog 100 ti100 := ⟨Tryz.underlying100, ⟨Tryz.t100, by kernel_rfl, by kernel_rfl, by kernel_rfl, fun _ => rfl⟩, rfl, za2 rfl, za3 rfl⟩
noncomputable def ti102 : TI := ⟨Go.Proofs.Tryz.t101.desc, 3, 32, [.str [], .int .i64 0, .lit false]⟩
theorem zum : TI.ok Tryz.prog 102 ti102 := ⟨Tryz.underlying102, ⟨Tryz.t102, by kernel_rfl, by kernel_rfl, by kernel_rfl, fun _ => rfl⟩, rfl, za2 rfl, za3 rfl⟩
noncomputable def ti107 : TI := ⟨Go.Proofs.Tryz.t107.desc, 7, 168, [.nilsl, .nilsl, .nilsl, .nilsl, .nilsl, .nilsl, .nilsl]⟩
theorem zs5 : TI.ok Tryz.prog 107 ti107 := ⟨Tryz.underlying107, ⟨Tryz.t107, by kernel_rfl, by kernel_rfl, by kernel_rfl, fun _ => rfl⟩, rfl, za2 rfl, za3 rfl⟩
noncomputable def ti110 : TI := ⟨Go.Proofs.Tryz.t110.desc, 1, 8, [.nilfn]⟩
theorem zvu : TI.ok Tryz.prog 110 ti110 := ⟨Tryz.underlying110, ⟨Tryz.t110, by kernel_rfl, by kernel_rfl, by kernel_rfl, fun _ => rfl⟩, rfl, za2 rfl, za3 rfl⟩
noncomputable def ti112 : TI := ⟨Go.Proofs.Tryz.t112.desc, 1, 8, [.nilptr]⟩
theorem ztu : TI.ok Tryz.prog 112 ti112 := ⟨Tryz.underlying112, ⟨Tryz.t112, by kernel_rfl, by kernel_rfl, by kernel_rfl, fun _ => rfl⟩, rfl, za2 rfl, za3 rfl⟩
noncomputable def ti115 : TI := ⟨Go.Proofs.Tryz.t115.desc, 1, 8, [.nilptr]⟩
theorem zvk : TI.ok Tryz.prog 115 ti115 := ⟨Tryz.underlying115, ⟨Tryz.t115, by kernel_rfl, by kernel_rfl, by kernel_rfl, fun _ => rfl⟩, rfl, za2 rfl, za3 rfl⟩
noncomputable def ti117 : TI := ⟨Go.Proofs.Tryz.t116.desc, 2, 24, [.str [], .int .i64 0]⟩
theorem zuq : TI.ok Tryz.prog 117 ti117 := ⟨Tryz.underlying117, ⟨Tryz.t117, by kernel_rfl, by kernel_rfl, by kernel_rfl, fun _ => rfl⟩, rfl, za2 rfl, za3 rfl⟩
noncomputable def ti120 : TI := ⟨Go.Proofs.Tryz.t119.desc, 2, 40, [.str [], .nilsl]⟩
theorem zt3 : TI.ok Tryz.prog 120 ti120 := ⟨Tryz.underlying120, ⟨Tryz.t120, by kernel_rfl, by kernel_rfl, by kernel_rfl, fun _ => rfl⟩, rfl, za2 rfl, za3 rfl⟩
noncomputable def ti130 : TI := ⟨Go.Proofs.Tryz.t130.desc, 1, 8, [.int .u64 0]⟩
theorem zt2 : TI.ok Tryz.prog 130 ti130 := ⟨Tryz.underlying130, ⟨Tryz.t130, by kernel_rfl, by kernel_rfl, by kernel_rfl, fun _ => rfl⟩, rfl, za2 rfl, za3 rfl⟩
noncomputable def ti138 : TI := ⟨Go.Proofs.Tryz.t138.desc, 1, 8, [.nilptr]⟩
theorem ztt : TI.ok Tryz.prog 138 ti138 := ⟨Tryz.underlying138, ⟨Tryz.t138, by kernel_rfl, by kernel_rfl, by kernel_rfl, fun _ => rfl⟩, rfl, za2 rfl, za3 rfl⟩
noncomputable def ti140 : TI := ⟨Go.Proofs.Tryz.t139.desc, 2, 32, [.nilptr, .nilsl]⟩
theorem zvl : TI.ok Tryz.prog 140 ti140 := ⟨Tryz.underlying140, ⟨Tryz.t140, by kernel_rfl, by kernel_rfl, by kernel_rfl, fun _ => rfl⟩, rfl, za2 rfl, za3 rfl⟩
noncomputable def ti155 : TI := ⟨Go.Proofs.Tryz.t155.desc, 1, 8, [.nilptr]⟩
theorem zug : TI.ok Tryz.prog 155 ti155 := ⟨Tryz.underlying155, ⟨Tryz.t155, by kernel_rfl, by kernel_rfl, by kernel_rfl, fun _ => rfl⟩, rfl, za2 rfl, za3 rfl⟩
noncomputable def ti157 : TI := ⟨Go.Proofs.Tryz.t157.desc, 1, 8, [.nilfn]⟩
theorem zvw : TI.ok Tryz.prog 157 ti157 := ⟨Tryz.underlying157, ⟨Tryz.t157, by kernel_rfl, by kernel_rfl, by kernel_rfl, fun _ => rfl⟩, rfl, za2 rfl, za3 rfl⟩
noncomputable def ti164 : TI := ⟨Go.Proofs.Tryz.t164.desc, 1, 8, [.int .u64 0]⟩
theorem zu8 : TI.ok Tryz.prog 164 ti164 := ⟨Tryz.underlying164, ⟨Tryz.t164, by kernel_rfl, by kernel_rfl, by kernel_rfl, fun _ => rfl⟩, rfl, za2 rfl, za3 rfl⟩
noncomputable def ti165 : TI := ⟨Go.Proofs.Tryz.t165.desc, 2, 16, [.int .i64 0, .int .i64 0]⟩
theorem zty : TI.ok Tryz.prog 165 ti165 := ⟨Tryz.underlying165, ⟨Tryz.t165, by kernel_rfl, by kernel_rfl, by kernel_rfl, fun _ => rfl⟩, rfl, za2 rfl, za3 rfl⟩
noncomputable def ti166 : TI := ⟨Go.Proofs.Tryz.t166.desc, 1, 24, [.nilsl]⟩
theorem zva : TI.ok Tryz.prog 166 ti166 := ⟨Tryz.underlying166, ⟨Tryz.t166, by kernel_rfl, by kernel_rfl, by kernel_rfl, fun _ => rfl⟩, rfl, za2 rfl, za3 rfl⟩
noncomputable def ti177 : TI := ⟨Go.Proofs.Tryz.t177.desc, 1, 8, [.nilptr]⟩
theorem zu4 : TI.ok Tryz.prog 177 ti177 := ⟨Tryz.underlying177, ⟨Tryz.t177, by kernel_rfl, by kernel_rfl, by kernel_rfl, fun _ => rfl⟩, rfl, za2 rfl, za3 rfl⟩
noncomputable def ti179 : TI := ⟨Go.Proofs.Tryz.t178.desc, 1, 16, [.nilif]⟩
theorem zvx : TI.ok Tryz.prog 179 ti179 := ⟨Tryz.underlying179, ⟨Tryz.t179, by kernel_rfl, by kernel_rfl, by kernel_rfl, fun _ => rfl⟩, rfl, za2 rfl, za3 rfl⟩
noncomputable def ti184 : TI := ⟨Go.Proofs.Tryz.t184.desc, 1, 8, [.nilfn]⟩
theorem zs9 : TI.ok Tryz.prog 184 ti184 := ⟨Tryz.underlying184, ⟨Tryz.t184, by kernel_rfl, by kernel_rfl, by kernel_rfl, fun _ => rfl⟩, rfl, za2 rfl, za3 rfl⟩
noncomputable def ti194 : TI := ⟨Go.Proofs.Tryz.t194.desc, 6, 48, [.int .i64 0, .int .i64 0, .int .i64 0, .int .i64 0, .int .i64 0, .int .i64 0]⟩
theorem zvd : TI.ok Tryz.prog 194 ti194 := ⟨Tryz.underlying194, ⟨Tryz.t194, by kernel_rfl, by kernel_rfl, by kernel_rfl, fun _ => rfl⟩, rfl, za2 rfl, za3 rfl⟩
noncomputable def ti201 : TI := ⟨Go.Proofs.Tryz.t201.desc, 1, 4, [.int .u32 0]⟩
theorem zuh : TI.ok Tryz.prog 201 ti201 := ⟨Tryz.underlying201, ⟨Tryz.t201, by kernel_rfl, by kernel_rfl, by kernel_rfl, fun _ => rfl⟩, rfl, za2 rfl, za3 rfl⟩
noncomputable def ti210 : TI := ⟨Go.Proofs.Tryz.t210.desc, 1, 8, [.nilptr]⟩
theorem zur : TI.ok Tryz.prog 210 ti210 := ⟨Tryz.underlying210, ⟨Tryz.t210, by kernel_rfl, by kernel_rfl, by kernel_rfl, fun _ => rfl⟩, rfl, za2 rfl, za3 rfl⟩
noncomputable def ti216 : TI := ⟨Go.Proofs.Tryz.t216.desc, 1, 24, [.nilsl]⟩
theorem zvf : TI.ok Tryz.prog 216 ti216 := ⟨Tryz.underlying216, ⟨Tryz.t216, by kernel_rfl, by kernel_rfl, by kernel_rfl, fun _ => rfl⟩, rfl, za2 rfl, za3 rfl⟩
noncomputable def ti221 : TI := ⟨Go.Proofs.Tryz.t220.desc, 2, 2, [.int .u8 0, .int .u8 0]⟩
theorem zvv : TI.ok Tryz.prog 221 ti221 := ⟨Tryz.underlying221, ⟨Tryz.t221, by kernel_rfl, by kernel_rfl, by kernel_rfl, fun _ => rfl⟩, rfl, za2 rfl, za3 rfl⟩
noncomputable def ti222 : TI := ⟨Go.Proofs.Tryz.t222.desc, 32, 32, [.int .u8 0, .int .u8 0, .int .u8 0, .int .u8 0, .int .u8 0, .int .u8 0, .int .u8 0, .int .u8 0, .int .u8 0, .int .u8 0, .int .u8 0, .int .u8 0, .int .u8 0, .int .u8 0, .int .u8 0, .int .u8 0, .int .u8 0, .int .u8 0, .int .u8 0, .int .u8 0, .int .u8 0, .int .u8 0, .int .u8 0, .int .u8 0, .int .u8 0, .int .u8 0, .int .u8 0, .int .u8 0, .int .u8 0, .int .u8 0, .int .u8 0, .int .u8 0]⟩
theorem zu1 : TI.ok Tryz.prog 222 ti222 := ⟨Tryz.underlying222, ⟨Tryz.t222, by kernel_rfl, by kernel_rfl, by kernel_rfl, fun _ => rfl⟩, rfl, za2 rfl, za3 rfl⟩
noncomputable def ti223 : TI := ⟨Go.Proofs.Tryz.t223.desc, 1, 8, [.nilptr]⟩
theorem zus : TI.ok Tryz.prog 223 ti223 := ⟨Tryz.underlying223, ⟨Tryz.t223, by kernel_rfl, by kernel_rfl, by kernel_rfl, fun _ => rfl⟩, rfl, za2 rfl, za3 rfl⟩
noncomputable def ti228 : TI := ⟨Go.Proofs.Tryz.t227.desc, 3, 12, [.int .i32 0, .int .i32 0, .int .i32 0]⟩
theorem zvm : TI.ok Tryz.prog 228 ti228 := ⟨Tryz.underlying228, ⟨Tryz.t228, by kernel_rfl, by kernel_rfl, by kernel_rfl, fun _ => rfl⟩, rfl, za2 rfl, za3 rfl⟩
noncomputable def ti230 : TI := ⟨Go.Proofs.Tryz.t229.desc, 5, 20, [.int .u32 0, .int .u32 0, .int .i32 0, .int .i32 0, .int .i32 0]⟩
theorem zuo : TI.ok Tryz.prog 230 ti230 := ⟨Tryz.underlying230, ⟨Tryz.t230, by kernel_rfl, by kernel_rfl, by kernel_rfl, fun _ => rfl⟩, rfl, za2 rfl, za3 rfl⟩
noncomputable def ti233 : TI := ⟨Go.Proofs.Tryz.t233.desc, 0, 0, []⟩
theorem zs7 : TI.ok Tryz.prog 233 ti233 := ⟨Tryz.underlying233, ⟨Tryz.t233, by kernel_rfl, by kernel_rfl, by kernel_rfl, fun _ => rfl⟩, rfl, za2 rfl, za3 rfl⟩
noncomputable def ti235 : TI := ⟨Go.Proofs.Tryz.t234.desc, 0, 0, []⟩
theorem zti : TI.ok Tryz.prog 235 ti235 := ⟨Tryz.underlying235, ⟨Tryz.t235, by kernel_rfl, by kernel_rfl, by kernel_rfl, fun _ => rfl⟩, rfl, za2 rfl, za3 rfl⟩
noncomputable def tab : Tr := (.node 94 (.node 29 (.node 7 (.node 3 (.leaf [(1, ti1), (2, ti2), (3, ti3)]) (.leaf [(4, ti4), (5, ti5), (6, ti6), (7, ti7)])) (.node 21 (.leaf [(9, ti9), (16, ti16), (20, ti20), (21, ti21)]) (.leaf [(22, ti22), (23, ti23), (28, ti28), (29, ti29)]))) (.node 76 (.node 50 (.leaf [(37, ti37), (40, ti40), (41, ti41), (50, ti50)]) (.leaf [(55, ti55), (57, ti57), (75, ti75), (76, ti76)])) (.node 86 (.leaf [(78, ti78), (79, ti79), (84, ti84), (86, ti86)]) (.leaf [(88, ti88), (91, ti91), (92, ti92), (94, ti94)])))) (.node 164 (.node 115 (.node 102 (.leaf [(96, ti96), (98, ti98), (100, ti100), (102, ti102)]) (.leaf [(107, ti107), (110, ti110), (112, ti112), (115, ti115)])) (.node 138 (.leaf [(117, ti117), (120, ti120), (130, ti130), (138, ti138)]) (.leaf [(140, ti140), (155, ti155), (157, ti157), (164, ti164)]))) (.node 210 (.node 179 (.leaf [(165, ti165), (166, ti166), (177, ti177), (179, ti179)]) (.leaf [(184, ti184), (194, ti194), (201, ti201), (210, ti210)])) (.node 223 (.leaf [(216, ti216), (221, ti221), (222, ti222), (223, ti223)]) (.leaf [(228, ti228), (230, ti230), (233, ti233), (235, ti235)])))))
noncomputable def Θ : Tys := tab.get
theorem hΘ : Tys.Ok Tryz.prog Θ := Tr.ok tab ⟨⟨⟨⟨⟨zzj, ⟨zzg, ⟨zy9, trivial⟩⟩⟩, ⟨zyj, ⟨zyp, ⟨zy3, ⟨zyi, trivial⟩⟩⟩⟩⟩, ⟨⟨zzm, ⟨zxp, ⟨zxg, ⟨zxi, trivial⟩⟩⟩⟩, ⟨zw9, ⟨zxm, ⟨zyf, ⟨zxo, trivial⟩⟩⟩⟩⟩⟩, ⟨⟨⟨zx9, ⟨zye, ⟨zwe, ⟨zxe, trivial⟩⟩⟩⟩, ⟨zxz, ⟨zwj, ⟨zx2, ⟨zxq, trivial⟩⟩⟩⟩⟩, ⟨⟨zx8, ⟨zw5, ⟨zxa, ⟨zx5, trivial⟩⟩⟩⟩, ⟨zws, ⟨zxy, ⟨zx4, ⟨zyd, trivial⟩⟩⟩⟩⟩⟩⟩, ⟨⟨⟨⟨zxu, ⟨zxb, ⟨zvp, ⟨zum, trivial⟩⟩⟩⟩, ⟨zs5, ⟨zvu, ⟨ztu, ⟨zvk, trivial⟩⟩⟩⟩⟩, ⟨⟨zuq, ⟨zt3, ⟨zt2, ⟨ztt, trivial⟩⟩⟩⟩, ⟨zvl, ⟨zug, ⟨zvw, ⟨zu8, trivial⟩⟩⟩⟩⟩⟩, ⟨⟨⟨zty, ⟨zva, ⟨zu4, ⟨zvx, trivial⟩⟩⟩⟩, ⟨zs9, ⟨zvd, ⟨zuh, ⟨zur, trivial⟩⟩⟩⟩⟩, ⟨⟨zvf, ⟨zvv, ⟨zu1, ⟨zus, trivial⟩⟩⟩⟩, ⟨zvm, ⟨zuo, ⟨zs7, ⟨zti, trivial⟩⟩⟩⟩⟩⟩⟩⟩
end Go.Proofs.YtblllibdahkgfaaGreatDoor

namespace Go.Proofs.YtblllibdahkgfaaGreatDoor
open Go Sx
set_option maxRecDepth 100000
theorem zt1 : (Tryz.prog.fieldsOf 50).toList = [⟨ "Kind", 3, 0, false, "", "", 0⟩, ⟨ "N", 3, 1, false, "", "", 8⟩] := by kernel_rfl
theorem agg50 (a b c d : Int) : AggEq Tryz.prog 50 [.int .i64 a, .int .i64 b] [.int .i64 c, .int .i64 d] (decide (a = c) && decide (b = d)) := by
 unfold AggEq
 intro ρ w op x y
 refine ⟨run_eqGuard_agg _ _ _ _ _ _ _ Tryz.eqGuardType50, ?_⟩
 have h1 := run_equalIn_agg (P := Tryz.prog) w (9998 + 1) 50 #[.int .i64 a, .int .i64 b] #[.int .i64 c, .int .i64 d] (by kernel_rfl) Tryz.stoodInHeld50
 have h2 : (Op.eqFields (9998 + 1) #[Value.int .i64 a, .int .i64 b] #[Value.int .i64 c, .int .i64 d] (Tryz.prog.fieldsOf 50).toList).run Tryz.prog w = .ok (decide (a = c) && decide (b = d)) w := by
  rw [zt1]
  have p1 : ∀ (u v : Int), (Op.equalIn (9998 + 1) 3 (.int .i64 u) (.int .i64 v)).run Tryz.prog w = .ok (u == v) w := fun u v => run_equalIn_int w 9998 3 .i64 .i64 u v Tryz.underlying3
  have q : (isAgg 3).run Tryz.prog w = .ok false w := Tryz.isAgg3 w
  by_cases e1 : a = c <;> by_cases e2 : b = d <;> simp [Op.eqFields, part, q, p1, e1, e2]
 exact h1.trans h2
end Go.Proofs.YtblllibdahkgfaaGreatDoor

namespace Go.Proofs.YtblllibdahkgfaaGreatDoor
open Go Sx
set_option maxRecDepth 100000
abbrev Stp := Int × Int
def enc (s : Stp) : List SA := [.int .i64 s.1, .int .i64 s.2]
def encI (n : Int) : List SA := [.int .i64 n]
abbrev zaz (F : Fz) (a : SA) (l : List Stp) : Prop := Sl F 50 2 enc a l
abbrev zel (F : Fz) (a : SA) (l : List Int) : Prop := Sl F 3 1 encI a l
theorem zxk (μ : Mu) (l : List Stp) : (l.map enc).map (List.map (SA.ren μ)) = l.map enc := by
 rw [List.map_map]; exact List.map_congr_left fun s _ => rfl
theorem zt5 (μ : Mu) (l : List Int) : (l.map encI).map (List.map (SA.ren μ)) = l.map encI := by
 rw [List.map_map]; exact List.map_congr_left fun s _ => rfl
theorem zdv (μ : Mu) (l : List Stp) (c : Nat) : (SB.arr 50 2 (l.map enc) c).ren μ = SB.arr 50 2 (l.map enc) c := by
 show SB.arr 50 2 ((l.map enc).map (List.map (SA.ren μ))) c = _; rw [zxk]
theorem zb9 (μ : Mu) (l : List Int) (c : Nat) : (SB.arr 3 1 (l.map encI) c).ren μ = SB.arr 3 1 (l.map encI) c := by
 show SB.arr 3 1 ((l.map encI).map (List.map (SA.ren μ))) c = _; rw [zt5]
theorem zcd (n : Nat) (l : List Stp) (c : Nat) : (SB.arr 50 2 (l.map enc) c).below n := by
 intro x hx a ha
 obtain ⟨s, _, rfl⟩ := List.mem_map.1 hx
 simp only [enc, List.mem_cons, List.not_mem_nil, or_false] at ha
 rcases ha with rfl | rfl <;> trivial
theorem zbw (n : Nat) (l : List Int) (c : Nat) : (SB.arr 3 1 (l.map encI) c).below n := by
 intro x hx a ha
 obtain ⟨s, _, rfl⟩ := List.mem_map.1 hx
 simp only [encI, List.mem_cons, List.not_mem_nil, or_false] at ha
 subst ha; trivial
theorem zai {n : Int} (h1 : -9223372036854775808 ≤ n) (h2 : n ≤ 9223372036854775807) : IntKind.i64.wrap n = n := IntWalk.i64_in _ (by omega)
theorem cnt {k : Nat} (h : k < 4611686018427387904) : SA.int .i64 ((k + 1 : Nat) : Int) = SA.int .i64 (IntKind.i64.wrap ((k : Int) + 1)) := by
 rw [zai (by omega) (by omega)]; rfl
theorem neq_f {x y : Nat} (h : (!decide ((x : Int) = y)) = false) : x = y := by
 simp at h; omega
theorem mixed : Tryz.prog.follows .mixedOrders = true := by kernel_rfl
set_option maxHeartbeats 1000000 in
theorem zx3 (F : Fz) (sa sb : SA) (a b : List Stp) (ha : zaz F sa a) (hb : zaz F sb b) (la : a.length < 1000000) :
  Fo Tryz.prog F 19 [.va sa, .va sb] (fun o F' => o = .ret (.va (.bool (decide (a = b)))) ∧ F' = F) := by
 obtain ⟨na, ba, ea, ca, La, ra, rfl, ha1, ha2, ha3, ha4⟩ := ha
 obtain ⟨nb, bb, eb, cb, Lb, rb, rfl, hb1, hb2, hb3, hb4⟩ := hb
 have fin : ∀ (v : Bool) (h : Hp) (nx : Nat), v = decide (a = b) → lget h 0 = some (.frz F) →
   Cln 1 (FoK F fun o F' => o = .ret (.va (.bool (decide (a = b)))) ∧ F' = F) (.ret (.va (.bool v))) h nx := by
  intro v h nx hv h0
  exact endPu h0 (Fz.le_refl F) (by rw [hv]; rfl) rfl
 refine fo_of hΘ Tryz.func19 rfl (by decide) _ _ rfl rfl rfl ?_;conv=>whnf
 refine br (fun g => ?_) (fun g => ?_)
 ·conv=>whnf
  refine fin _ _ _ ?_ rfl
  have : ¬ a = b := by rintro rfl; simp at g
  simp [this]
 ·have gl : a.length = b.length := neq_f g
  conv=>whnf
  refine zau hΘ (X := { k : Nat // k ≤ a.length ∧ a.take k = b.take k }) (fun k => [(5, .va (.int .i64 k.1))]) [4, 11, 12, 13, 14, 15, 16, 17, 18, 19, 20, 21, 22, 23, 24, 25] (fz fun _ => F) 1 (fun k => a.length - k.1) ⟨0, by simp⟩
   (fun hH hT => le0 hH hT rfl (Fz.le_refl F) rfl ⟨rfl, trivial⟩) ?_
  rintro ⟨k, hk, hp⟩ hH hT;conv=>whnf
  refine br (fun g => ?_) (fun g => ?_)
  ·have g : k < a.length := by simpa using g
   have gb : k < b.length := by omega
   conv=>whnf
   refine draw hΘ mixed [(0, true), (1, true), (2, true), (3, true), (4, true), (5, true), (6, true), (7, true), (8, true)] [] (by kernel_rfl) ?_;conv=>whnf
   refine ⟨Sl.lt ha1 g, ⟨by simp, by simpa using g⟩, ?_⟩;conv=>whnf
   refine ⟨rfl, ?_⟩;conv=>whnf
   refine ⟨_, ha2 (Sl.lt ha1 g), ?_⟩;conv=>whnf
   refine ⟨_, Sl.at ha4 g, ?_⟩;conv=>whnf
   refine ⟨Sl.lt hb1 gb, ⟨by simp, by simpa using gb⟩, ?_⟩;conv=>whnf
   refine ⟨rfl, ?_⟩;conv=>whnf
   refine ⟨_, hb2 (Sl.lt hb1 gb), ?_⟩;conv=>whnf
   refine ⟨_, Sl.at hb4 gb, ?_⟩;conv=>whnf
   refine ⟨_, agg50 _ _ _ _, ?_⟩;conv=>whnf
   refine br (fun g2 => ?_) (fun g2 => ?_)
   ·conv=>whnf
    refine fin _ _ _ ?_ rfl
    have : ¬ a = b := by rintro rfl; simp at g2
    simp [this]
   ·conv=>whnf
    refine ⟨⟨k + 1, by omega, ?_⟩, by show a.length - (k + 1) < a.length - k; omega, lr0 hH hT rfl (Fz.le_refl F) rfl ⟨cnt (by omega), trivial⟩⟩
    have h3 : a[k] = b[k] := by
     simp at g2; exact Prod.ext g2.1 g2.2
    rw [List.take_succ_eq_append_getElem g, List.take_succ_eq_append_getElem gb, hp, h3]
  ·conv=>whnf
   refine fin _ _ _ ?_ rfl
   have g : ¬ k < a.length := by simpa using g
   have h1 : a = b := by
    rw [List.take_of_length_le (by omega), List.take_of_length_le (by omega)] at hp; exact hp
   simp [h1]
end Go.Proofs.YtblllibdahkgfaaGreatDoor

namespace Go.Proofs.YtblllibdahkgfaaGreatDoor
open Go Go.RowKit Sx
def Holds (F : Fz) (w : World) : Prop := ∀ b B, F b = some B → B.below 1 ∧ ∃ o, w.heap[b]? = some o ∧ ∀ ρ : Rho, (∀ k, ρ 0 k = k) → B.ok ρ o
theorem lget0 {F : Fz} {i : Nat} {e : Ent} (h : lget [[(0, Ent.frz F)]] i = some e) : i = 0 ∧ e = .frz F := by
 cases i with
 | zero => exact ⟨rfl, by cases h; rfl⟩
 | succ i => simp [lget, aget, Nat.beq] at h
def ctx0 (W : World) : Ctx := { w0 := W, ρ0 := fun _ k => k, n0 := 1, B := fun _ => False, R := fun _ => True }
theorem satF {C : Ctx} {ρ : Rho} {F : Fz} {w : World} (hF : Holds F w) (h0 : ∀ k, ρ 0 k = k) (hn : C.n0 = 1) (ha : ∀ k, ρ 0 k = C.ρ0 0 k) (hos : w.os = C.w0.os) (htape : w.tape = C.w0.tape) (hout : w.output = C.w0.output) (hsz : C.w0.heap.size ≤ w.heap.size)
  (hfr : ∀ b, b < C.w0.heap.size → ¬ C.B b → w.heap[b]? = C.w0.heap[b]?) (hown : ∀ k, (F k).isSome = true → C.R k ∨ C.B k ∨ C.w0.heap.size ≤ k) : Sat C ρ [[(0, .frz F)]] 1 w where
 lt := fun i e h => by obtain ⟨rfl, rfl⟩ := lget0 h; omega
 blk := fun i e h k hk => by
  obtain ⟨rfl, rfl⟩ := lget0 h
  have hk : (F k).isSome = true := hk
  obtain ⟨B, hB⟩ := Option.isSome_iff_exists.1 hk
  obtain ⟨_, o, ho, hok⟩ := hF k B hB
  exact ⟨o, by rw [h0]; exact ho, by simp only [Ent.at, hB, Option.getD_some]; exact hok ρ h0⟩
 wf := fun i e h k hk => by
  obtain ⟨rfl, rfl⟩ := lget0 h
  have hk : (F k).isSome = true := hk
  obtain ⟨B, hB⟩ := Option.isSome_iff_exists.1 hk
  simp only [Ent.at, hB, Option.getD_some]; exact (hF k B hB).1
 inj := fun i k i' k' h h' e => by
  obtain ⟨_, h, _⟩ := h; obtain ⟨_, h', _⟩ := h'
  obtain ⟨rfl, _⟩ := lget0 h; obtain ⟨rfl, _⟩ := lget0 h'
  rw [h0, h0] at e; exact ⟨rfl, e⟩
 anch := fun i hi k => by
  rw [hn] at hi
  obtain rfl : i = 0 := by omega
  exact ha k
 n0 := by omega
 n1 := by omega
 os := hos
 tape := htape
 output := hout
 size := hsz
 fr := hfr
 own := fun i k h => by
  obtain ⟨e, h, hk⟩ := h
  obtain ⟨rfl, rfl⟩ := lget0 h
  have hk : (F k).isSome = true := hk
  rw [h0]
  rcases hown k hk with h | h | h
  ·exact .inl ⟨rfl, h⟩
  ·exact .inr (.inl h)
  ·exact .inr (.inr h)
 fz := ⟨F, rfl, fun b B hB => (hF b B hB).1⟩
 id0 := h0
 only := fun i F' h => (lget0 h).1
 lnk := fun i b h => by obtain ⟨_, h⟩ := lget0 h; cases h
theorem zmo {P : Program} {F : Fz} {f : FuncId} {args : List SV} {vs : List Value} {W : World} (h : Fo P F f args fun o _ => o = .ret (.va (.bool true)) ∧ True) (hF : Holds F W) (hr : relL (fun _ k => k) args vs) (hb : ∀ s ∈ args, s.below 1) :
  Calls P f vs.toArray W fun e W' => e = .returned (.bool true) ∧ Below W.heap.size W W' := by
 unfold Fo zcb at h
 have S0 : Sat (ctx0 W) (fun _ k => k) [[(0, .frz F)]] 1 W := satF hF (fun _ => rfl) rfl (fun _ => rfl) rfl rfl rfl (Nat.le_refl _) (fun _ _ _ => rfl) (fun _ _ => .inl trivial)
 have h2 := (h (ctx0 W) _ W vs S0 hr hb).2
 refine h2.mono ?_
 rintro e w' ⟨out, h', nx', ρ', hk, hrel, S, hag, hle, hbl⟩
 unfold Cln at hk
 obtain ⟨out0, F0, h0, n0, ρ0, ⟨k1, k2, k3, k4, k5⟩, r1, r2, S0, _⟩ := hk (ctx0 W) ρ' w' e rfl S hrel (by cases out <;> first | exact hbl | trivial)
 obtain ⟨rfl, -⟩ := k5
 obtain ⟨v, rfl, hv⟩ := r1
 refine ⟨by rw [hv]; rfl, ⟨S0.os, S0.tape, S0.output, S0.size, fun k hk => S0.fr k hk (fun h => h.elim)⟩⟩
theorem zvn {P : Program} {F : Fz} {f : FuncId} {args : List SV} {vs : List Value} {Q : Out → Fz → Prop} (hent : Sx.Enters P f)
  (hv : ∀ ρ vs', (∀ k, ρ 0 k = k) → relL ρ args vs' → vs' = vs)
  (hc : ∀ w, Holds F w → Calls P f vs.toArray w fun e w' => Below w.heap.size w w' ∧ ∃ g B a, w.heap.size ≤ g ∧ (∃ o, w'.heap[g]? = some o ∧ ∀ ρ : Rho, B.ok ρ o) ∧ B.below 1 ∧ a.z = true ∧ (∀ ρ : Rho, (∀ k, ρ 0 k = k) → e = .returned (a.den ρ)) ∧
   ∀ F' : Fz, F' g = some B → Fz.le F F' → Q (.ret (.va a)) F') : Fo P F f args Q := by
 unfold Fo zcb
 intro C ρ w vs' S hr hbl
 obtain rfl := hv ρ vs' S.id0 hr
 have hH : Holds F w := fun b B hB => by
  obtain ⟨F1, h1, h2⟩ := S.fz
  obtain rfl : F = F1 := by simpa [lget, aget, Nat.beq] using h1
  obtain ⟨o, ho, hok⟩ := S.blk 0 _ h1 b (by simp [Ent.has, hB])
  simp only [Ent.at, hB, Option.getD_some] at hok
  rw [S.id0] at ho
  have hb1 := h2 b B hB
  refine ⟨hb1, o, ho, fun ρ' hρ => ?_⟩
  exact SB.ok_congr (n := 1) (fun i hi => by
   obtain rfl : i = 0 := by omega
   funext k; rw [hρ, S.id0]) hb1 hok
 refine ⟨hent, (hc w hH).mono ?_⟩
 rintro e w' ⟨hb, g, B, a, hg, ⟨o, ho, hok⟩, hB1, ha, he, hQ⟩
 have hle : Fz.le F (fun k => if k = g then some B else F k) := fun k X hX => by
  have : k ≠ g := fun e => by
   subst e
   obtain ⟨_, o', ho', _⟩ := hH k X hX
   have := (Array.getElem?_eq_some_iff.1 ho').1
   omega
  simp [this, hX]
 have hz : (Out.ret (.va a)).z = true := ha
 have hH' : Holds (fun k => if k = g then some B else F k) w' := fun k X hX => by
  by_cases hk : k = g
  ·subst hk; simp at hX; subst hX; exact ⟨hB1, o, ho, fun ρ _ => hok ρ⟩
  ·simp [hk] at hX
   obtain ⟨h1, o', ho', hok'⟩ := hH k X hX
   exact ⟨h1, o', by rw [hb.block _ (Array.getElem?_eq_some_iff.1 ho').1]; exact ho', hok'⟩
 have S1 := S.belowW hb
 refine ⟨.ret (.va a), [[(0, .frz fun k => if k = g then some B else F k)]], 1, ρ, ?_, ⟨_, he ρ S.id0, rfl⟩, ?_, fun _ _ => rfl, Nat.le_refl _, ?_⟩
 ·exact endFo (.ret (.va a)) _ rfl hle (Fz.le_refl _) (hQ _ (by simp) hle) (by
   rw [Out.ren_id (μ := resP [[(0, .frz fun k => if k = g then some B else F k)]]) (.inl hz) (fun k => rfl)]; exact zar _) hz
 ·have hn : C.n0 = 1 := Nat.le_antisymm S.n0 S.n1
  refine satF hH' S.id0 hn (fun k => S.anch 0 (by omega) k) S1.os S1.tape S1.output S1.size S1.fr (fun k hk => ?_)
  by_cases hkg : k = g
  ·subst hkg; exact .inr (.inr (Nat.le_trans S.size hg))
  ·simp [hkg] at hk
   have := S.own 0 k ⟨_, rfl, hk⟩
   rw [S.id0] at this
   rcases this with h | h | h
   ·exact .inl h.2
   ·exact .inr (.inl h)
   ·exact .inr (.inr h)
 ·exact Out.z_below hz
end Go.Proofs.YtblllibdahkgfaaGreatDoor

namespace Go.Proofs.YtblllibdahkgfaaGreatDoor
open Go Go.RowKit Sx
attribute [local go_sem] Oper.semAt_some
def RawB (B : SB) (i : Nat) (z : Int) : Prop :=
 match B with
 | .obj (.cells cs _ _) => cs[i]? = some (.int .i64 z)
 | .cells _ l => l[i]? = some (.int .i64 z)
 | _ => False
def RawAt (F : Fz) (b off : Nat) (zs : List Int) : Prop := zs = [] ∨ ∃ B, F b = some B ∧ ∀ j (h : j < zs.length), RawB B (off + j) zs[j]
theorem RawAt.mono {F F' : Fz} {b off : Nat} {zs : List Int} (h : RawAt F b off zs) (hle : Fz.le F F') : RawAt F' b off zs := by
 rcases h with h | ⟨B, h1, h2⟩
 ·exact .inl h
 ·exact .inr ⟨B, hle _ _ h1, h2⟩
theorem RawB.cell {B : SB} {i b : Nat} {z : Int} {o : Obj} {ρ : Rho} {w : World} (h : RawB B i z) (hok : B.ok ρ o) (ho : w.heap[b]? = some o) : w.cell? ⟨b, i, none⟩ = some (.int .i64 z) := by
 cases B with
 | obj o' =>
  have hok : o = o' := hok
  subst hok
  cases o with
  | cells cs t fr =>
   have h : cs[i]? = some (.int .i64 z) := h
   simp [World.cell?, ho, h]
  | _ => exact h.elim
 | cells t l =>
  have h : l[i]? = some (.int .i64 z) := h
  obtain ⟨fr, _, rfl⟩ := hok
  simp [World.cell?, ho, h, SA.den]
 | arr t sz L room => exact h.elim
theorem zjl : ∀ (l : List SA) (i : Nat) (x : SA), l[i]? = some x → ze9 l i 1 = some [x]
 | [], i, x, h => by simp at h
 | y :: r, 0, x, h => by
  simp at h; subst h
  cases r <;> rfl
 | y :: r, i + 1, x, h => by
  simp at h
  exact zjl r i x h
def ints2 (l : List Stp) : List Int := (l.map fun s => [s.1, s.2]).flatten
theorem zf9 : ∀ l : List Stp, (ints2 l).length = l.length * 2
 | [] => rfl
 | s :: r => by
  have := zf9 r
  simp only [ints2, List.map_cons, List.flatten_cons, List.length_append, List.length_cons, List.length_nil] at *
  omega
theorem zy8 : (Tryz.prog.info? 50).map (fun i => (i.zero, i.size, i.bytes)) = some (some (.agg #[.int .i64 0, .int .i64 0]), 2, 16) := by kernel_rfl
set_option maxRecDepth 100000 in
set_option maxHeartbeats 1000000 in
theorem zt8 (b off m len cap : Nat) (w : World) (zs : List Int) (hm : (if (66 : Int) < (len : Int) then (66 : Int) else (len : Int)).toNat = m) (hm66 : m ≤ 66) (hlen : len ≤ cap) (hcap : cap ≤ maxLen) (hz : zs.length = m * 2)
  (hc : ∀ j (h : j < zs.length), w.cell? ⟨b, off + j, none⟩ = some (.int .i64 zs[j])) :
  Calls Tryz.prog 13 #[.slice (some ⟨b, off, none⟩) len cap] w fun e w' => ∃ v, e = .returned v ∧ w'.ownsRow w.heap.size 50 2 v m (zs.map (Value.int .i64)) ∧ v ≠ .slice none 0 0 ∧ Below w.heap.size w w' := by
 obtain ⟨i0, hi, hz0, hz1, hz2⟩ := info_parts zy8
 have hown : (w.alloc (.cells #[] 50)).ownsRow w.heap.size 50 2 (.slice (some ⟨w.heap.size, 0, none⟩) 0 0) 0 [] := by
  refine ⟨rfl, .inr ⟨w.heap.size, 0, #[], rfl, Nat.le_refl _, ?_, Nat.le_refl _, Nat.zero_le _, rfl, rfl⟩⟩
  show (w.heap.push _)[w.heap.size]? = _
  simp
 have hread : ∀ (j : Nat) (u : Value), (zs.map (Value.int .i64))[j]? = some u → (w.alloc (.cells #[] 50)).cell? ((⟨b, off, none⟩ : Addr).add j) = some u := by
  intro j u hu
  have hj : j < zs.length := by have := (List.getElem?_eq_some_iff.1 hu).1; simpa using this
  have h1 := hc j hj
  rw [List.getElem?_map, List.getElem?_eq_getElem hj] at hu
  obtain rfl : Value.int .i64 zs[j] = u := by simpa using hu
  have hb : b < w.heap.size := by
   refine Nat.lt_of_not_le fun hge => ?_
   simp [World.cell?, Array.getElem?_eq_none hge] at h1
  rw [← h1, show (⟨b, off, none⟩ : Addr).add j = ⟨b, off + j, none⟩ by simp [Addr.add]]
  exact Below.cell (B := w.heap.size) ((Below.refl _ w).alloc (Nat.le_refl _) _) (p := ⟨b, off + j, none⟩) hb
 have hone : ∀ u ∈ zs.map (Value.int .i64), u.oneCell' = true := by
  intro u hu
  obtain ⟨z, _, rfl⟩ := List.mem_map.1 hu
  rfl
 have hbel : Below w.heap.size w (w.alloc (.cells #[] 50)) := (Below.refl _ w).alloc (Nat.le_refl _) _
 have H : Hid (∀ (v' : Value) (w' : World), w'.ownsRow w.heap.size 50 2 v' (0 + m) ([] ++ zs.map (Value.int .i64)) → (w.alloc (.cells #[] 50)).grownBy w' (some w.heap.size) → (v' = .slice none 0 0 ↔ Value.slice (some ⟨w.heap.size, 0, none⟩) 0 0 = .slice none 0 0 ∧ m = 0) →
   w'.ownsRow w.heap.size 50 2 v' m (zs.map (Value.int .i64)) ∧ v' ≠ .slice none 0 0 ∧ Below w.heap.size w w') := by
  intro v' w' h1 h2 h3
  rw [Nat.zero_add, List.nil_append] at h1
  exact ⟨h1, fun e => by simp at h3; exact h3 e, hbel.grown h2 (by simp) (fun k hk => by cases hk; exact Nat.le_refl _)⟩
 clear hc hbel
 by_cases h66 : (66 : Int) < (len : Int)
 ·obtain rfl : m = 66 := by rw [if_pos h66] at hm; omega
  go_enter Tryz.func13, Tryz.ntmps13
  go_wp2_with (first | (at_builtin; go_loud (refine wpList_append_own _ rfl (.tmp 3) (.tmp 8) 22 rfl w.heap.size 50 i0 (.agg #[.int .i64 0, .int .i64 0]) 2 16 Tryz.underlying22 hi hz0 hz1 hz2 rfl (by decide) (.slice (some ⟨w.heap.size, 0, none⟩) 0 0) 0 [] rfl hown ⟨b, off, none⟩ 66 cap (zs.map (Value.int .i64)) rfl (by simpa using hz) hread hone (by unfold maxLen; omega) (by omega) (by simp) ?_; intro v' w' h1 h2 h3; have X := H.out v' w' h1 h2 h3; have X' : Hid (w'.ownsRow w.heap.size 50 2 v' 66 (zs.map (Value.int .i64)) ∧ v' ≠ .slice none 0 0 ∧ Below w.heap.size w w') := X; clear X h1 h2 h3)))
  all_goals go_ret
  all_goals exact ⟨_, rfl, X'.out⟩
 ·obtain rfl : m = len := by rw [if_neg h66] at hm; omega
  have h66' : (m : Int) ≤ 66 := by omega
  go_enter Tryz.func13, Tryz.ntmps13
  go_wp2_with (first | (at_builtin; go_loud (refine wpList_append_own _ rfl (.tmp 3) (.tmp 8) 22 rfl w.heap.size 50 i0 (.agg #[.int .i64 0, .int .i64 0]) 2 16 Tryz.underlying22 hi hz0 hz1 hz2 rfl (by decide) (.slice (some ⟨w.heap.size, 0, none⟩) 0 0) 0 [] rfl hown ⟨b, off, none⟩ m cap (zs.map (Value.int .i64)) rfl (by simpa using hz) hread hone (by unfold maxLen; omega) (by omega) (by simp) ?_; intro v' w' h1 h2 h3; have X := H.out v' w' h1 h2 h3; have X' : Hid (w'.ownsRow w.heap.size 50 2 v' m (zs.map (Value.int .i64)) ∧ v' ≠ .slice none 0 0 ∧ Below w.heap.size w w') := X; clear X h1 h2 h3)))
  all_goals go_ret
  all_goals exact ⟨_, rfl, X'.out⟩
end Go.Proofs.YtblllibdahkgfaaGreatDoor

namespace Go.Proofs.YtblllibdahkgfaaGreatDoor
open Go Go.RowKit Sx
theorem zk6 (ρ : Rho) : ∀ (l : List Stp), ((l.map enc).flatten.map (SA.den ρ)) = (ints2 l).map (Value.int .i64)
 | [] => rfl
 | s :: r => by
  have := zk6 ρ r
  simp only [ints2, List.map_cons, List.flatten_cons, List.map_append] at *
  rw [this]; rfl
theorem zgx : ∀ (n : Nat) (l : List Stp), ints2 (l.take n) = (ints2 l).take (n * 2)
 | 0, l => by simp [ints2]
 | n + 1, [] => by simp [ints2]
 | n + 1, s :: r => by
  have := zgx n r
  rw [Nat.succ_mul, List.take_succ_cons]
  simp only [ints2, List.map_cons, List.flatten_cons] at *
  rw [this]; rfl
theorem RawAt.cells {F : Fz} {b off : Nat} {zs : List Int} {w : World} (h : RawAt F b off zs) (hH : Holds F w) (j : Nat) (hj : j < zs.length) : w.cell? ⟨b, off + j, none⟩ = some (.int .i64 zs[j]) := by
 rcases h with h | ⟨B, h1, h2⟩
 ·subst h; simp at hj
 ·obtain ⟨_, o, ho, hok⟩ := hH _ _ h1
  exact (h2 j hj).cell (hok (fun _ k => k) (fun _ => rfl)) ho
theorem zwt (F : Fz) (b off cap : Nat) (l : List Stp) (hl : l.length ≤ cap) (hcap : cap ≤ maxLen) (h : RawAt F b off (ints2 l)) :
  Fo Tryz.prog F 13 [.va (.slice false 0 b off 1 l.length cap)] (fun o F' => ∃ sc, o = .ret (.va sc) ∧ zaz F' sc (l.take 66)) := by
 refine zvn (vs := [.slice (some ⟨b, off, none⟩) l.length cap]) (Sx.enters_of Tryz.func13 rfl (by decide)) ?_ ?_
 ·rintro ρ vs' hρ hr
  match vs', hr with
  | [v], hr =>
   have : v = SA.den ρ (.slice false 0 b off 1 l.length cap) := hr.1
   rw [this]; simp [SA.den, hρ]
 ·intro w hH
  have hm : (if (66 : Int) < (l.length : Int) then (66 : Int) else (l.length : Int)).toNat = (l.take 66).length := by
   rw [List.length_take]; split <;> omega
  have h66 : (l.take 66).length ≤ 66 := by rw [List.length_take]; omega
  refine (zt8 b off (l.take 66).length l.length cap w (ints2 (l.take 66)) hm h66 hl hcap (zf9 _) (fun j hj => ?_)).mono ?_
  ·have hj2 : j < (ints2 l).length := by
    rw [zgx, List.length_take] at hj; omega
   rw [h.cells hH j hj2]
   simp only [zgx, List.getElem_take]
  ·rintro e w' ⟨v, rfl, ⟨h1, h2⟩, hne, hb⟩
   refine ⟨hb, ?_⟩
   rcases h2 with ⟨rfl, _⟩ | ⟨g, c, cur, rfl, hg, ho, hnc, hc, hsz, htk⟩
   ·exact absurd rfl hne
   ·refine ⟨g, .arr 50 2 ((l.take 66).map enc) c, .slice false 0 g 0 2 (l.take 66).length c, hg, ⟨_, ho, fun ρ => ⟨?_, ?_, cur.toList.drop ((l.take 66).length * 2), ?_, (0, 0), ?_, ?_⟩⟩, zcd _ _ _, rfl, fun ρ hρ => ?_, fun F' hF' hle => ⟨_, rfl, Sl.new hF'⟩⟩
    ·intro x hx
     obtain ⟨s, _, rfl⟩ := List.mem_map.1 hx
     rfl
    ·rw [List.length_map]; exact hnc
    ·rw [List.length_drop, List.length_map, Array.length_toList, hsz, Nat.sub_mul]
    ·intro j hj; simp
    ·rw [zk6, ← htk, List.take_append_drop]
    ·simp [SA.den, hρ]
end Go.Proofs.YtblllibdahkgfaaGreatDoor
