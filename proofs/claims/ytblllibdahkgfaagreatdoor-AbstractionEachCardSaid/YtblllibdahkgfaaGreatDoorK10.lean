import Derived.Test.YtblllibdahkgfaaGreatDoorProg
import Derived.Test.YtblllibdahkgfaaGreatDoorK09
import Derived.KernelRfl
import Derived.Below
import Derived.ProofKit
import Derived.WalkKit
import Derived.RowKit
import Derived.OwnWalk
import Derived.Laws.AppendOwn

/- The table of the program's types, for the symbolic executor; each row is checked by the kernel. Written by a program (gentab.py). -/
namespace Go.Proofs.YtblllibdahkgfaaGreatDoor
open Go Sx
set_option maxRecDepth 100000
noncomputable def ti1 : TI := ⟨Go.Proofs.Tryz.t1.desc, 1, 8, [.nilfn]⟩
theorem zw9 : TI.ok Tryz.prog 1 ti1 := ⟨Tryz.underlying1, ⟨Tryz.t1, by kernel_rfl, by kernel_rfl, by kernel_rfl, fun _ => rfl⟩, rfl, za6 rfl, za7 rfl⟩
noncomputable def ti2 : TI := ⟨Go.Proofs.Tryz.t2.desc, 1, 8, [.int .i64 0]⟩
theorem zw8 : TI.ok Tryz.prog 2 ti2 := ⟨Tryz.underlying2, ⟨Tryz.t2, by kernel_rfl, by kernel_rfl, by kernel_rfl, fun _ => rfl⟩, rfl, za6 rfl, za7 rfl⟩
noncomputable def ti3 : TI := ⟨Go.Proofs.Tryz.t3.desc, 1, 8, [.int .i64 0]⟩
theorem zxn : TI.ok Tryz.prog 3 ti3 := ⟨Tryz.underlying3, ⟨Tryz.t3, by kernel_rfl, by kernel_rfl, by kernel_rfl, fun _ => rfl⟩, rfl, za6 rfl, za7 rfl⟩
noncomputable def ti4 : TI := ⟨Go.Proofs.Tryz.t4.desc, 1, 1, [.lit false]⟩
theorem zw1 : TI.ok Tryz.prog 4 ti4 := ⟨Tryz.underlying4, ⟨Tryz.t4, by kernel_rfl, by kernel_rfl, by kernel_rfl, fun _ => rfl⟩, rfl, za6 rfl, za7 rfl⟩
noncomputable def ti5 : TI := ⟨Go.Proofs.Tryz.t5.desc, 1, 1, [.int .u8 0]⟩
theorem zxt : TI.ok Tryz.prog 5 ti5 := ⟨Tryz.underlying5, ⟨Tryz.t5, by kernel_rfl, by kernel_rfl, by kernel_rfl, fun _ => rfl⟩, rfl, za6 rfl, za7 rfl⟩
noncomputable def ti6 : TI := ⟨Go.Proofs.Tryz.t5.desc, 1, 1, [.int .u8 0]⟩
theorem zw4 : TI.ok Tryz.prog 6 ti6 := ⟨Tryz.underlying6, ⟨Tryz.t6, by kernel_rfl, by kernel_rfl, by kernel_rfl, fun _ => rfl⟩, rfl, za6 rfl, za7 rfl⟩
noncomputable def ti7 : TI := ⟨Go.Proofs.Tryz.t7.desc, 4, 24, [.int .i64 0, .int .i64 0, .lit false, .int .u8 0]⟩
theorem zxm : TI.ok Tryz.prog 7 ti7 := ⟨Tryz.underlying7, ⟨Tryz.t7, by kernel_rfl, by kernel_rfl, by kernel_rfl, fun _ => rfl⟩, rfl, za6 rfl, za7 rfl⟩
noncomputable def ti9 : TI := ⟨Go.Proofs.Tryz.t9.desc, 1, 16, [.str []]⟩
theorem zx6 : TI.ok Tryz.prog 9 ti9 := ⟨Tryz.underlying9, ⟨Tryz.t9, by kernel_rfl, by kernel_rfl, by kernel_rfl, fun _ => rfl⟩, rfl, za6 rfl, za7 rfl⟩
noncomputable def ti16 : TI := ⟨Go.Proofs.Tryz.t16.desc, 1, 8, [.nilptr]⟩
theorem zuz : TI.ok Tryz.prog 16 ti16 := ⟨Tryz.underlying16, ⟨Tryz.t16, by kernel_rfl, by kernel_rfl, by kernel_rfl, fun _ => rfl⟩, rfl, za6 rfl, za7 rfl⟩
noncomputable def ti20 : TI := ⟨Go.Proofs.Tryz.t20.desc, 1, 16, [.nilif]⟩
theorem zwv : TI.ok Tryz.prog 20 ti20 := ⟨Tryz.underlying20, ⟨Tryz.t20, by kernel_rfl, by kernel_rfl, by kernel_rfl, fun _ => rfl⟩, rfl, za6 rfl, za7 rfl⟩
noncomputable def ti21 : TI := ⟨Go.Proofs.Tryz.t21.desc, 1, 4, [.int .i32 0]⟩
theorem zwc : TI.ok Tryz.prog 21 ti21 := ⟨Tryz.underlying21, ⟨Tryz.t21, by kernel_rfl, by kernel_rfl, by kernel_rfl, fun _ => rfl⟩, rfl, za6 rfl, za7 rfl⟩
noncomputable def ti22 : TI := ⟨Go.Proofs.Tryz.t22.desc, 1, 24, [.nilsl]⟩
theorem zvg : TI.ok Tryz.prog 22 ti22 := ⟨Tryz.underlying22, ⟨Tryz.t22, by kernel_rfl, by kernel_rfl, by kernel_rfl, fun _ => rfl⟩, rfl, za6 rfl, za7 rfl⟩
noncomputable def ti23 : TI := ⟨Go.Proofs.Tryz.t23.desc, 1, 24, [.nilsl]⟩
theorem zvj : TI.ok Tryz.prog 23 ti23 := ⟨Tryz.underlying23, ⟨Tryz.t23, by kernel_rfl, by kernel_rfl, by kernel_rfl, fun _ => rfl⟩, rfl, za6 rfl, za7 rfl⟩
noncomputable def ti28 : TI := ⟨Go.Proofs.Tryz.t28.desc, 1, 24, [.nilsl]⟩
theorem zvn : TI.ok Tryz.prog 28 ti28 := ⟨Tryz.underlying28, ⟨Tryz.t28, by kernel_rfl, by kernel_rfl, by kernel_rfl, fun _ => rfl⟩, rfl, za6 rfl, za7 rfl⟩
noncomputable def ti29 : TI := ⟨Go.Proofs.Tryz.t3.desc, 1, 8, [.int .i64 0]⟩
theorem zvu : TI.ok Tryz.prog 29 ti29 := ⟨Tryz.underlying29, ⟨Tryz.t29, by kernel_rfl, by kernel_rfl, by kernel_rfl, fun _ => rfl⟩, rfl, za6 rfl, za7 rfl⟩
noncomputable def ti37 : TI := ⟨Go.Proofs.Tryz.t37.desc, 1, 24, [.nilsl]⟩
theorem zvp : TI.ok Tryz.prog 37 ti37 := ⟨Tryz.underlying37, ⟨Tryz.t37, by kernel_rfl, by kernel_rfl, by kernel_rfl, fun _ => rfl⟩, rfl, za6 rfl, za7 rfl⟩
noncomputable def ti40 : TI := ⟨Go.Proofs.Tryz.t40.desc, 1, 24, [.nilsl]⟩
theorem zwe : TI.ok Tryz.prog 40 ti40 := ⟨Tryz.underlying40, ⟨Tryz.t40, by kernel_rfl, by kernel_rfl, by kernel_rfl, fun _ => rfl⟩, rfl, za6 rfl, za7 rfl⟩
noncomputable def ti41 : TI := ⟨Go.Proofs.Tryz.t41.desc, 1, 24, [.nilsl]⟩
theorem zv8 : TI.ok Tryz.prog 41 ti41 := ⟨Tryz.underlying41, ⟨Tryz.t41, by kernel_rfl, by kernel_rfl, by kernel_rfl, fun _ => rfl⟩, rfl, za6 rfl, za7 rfl⟩
noncomputable def ti50 : TI := ⟨Go.Proofs.Tryz.t49.desc, 2, 16, [.int .i64 0, .int .i64 0]⟩
theorem zve : TI.ok Tryz.prog 50 ti50 := ⟨Tryz.underlying50, ⟨Tryz.t50, by kernel_rfl, by kernel_rfl, by kernel_rfl, fun _ => rfl⟩, rfl, za6 rfl, za7 rfl⟩
noncomputable def ti55 : TI := ⟨Go.Proofs.Tryz.t55.desc, 1, 24, [.nilsl]⟩
theorem zwo : TI.ok Tryz.prog 55 ti55 := ⟨Tryz.underlying55, ⟨Tryz.t55, by kernel_rfl, by kernel_rfl, by kernel_rfl, fun _ => rfl⟩, rfl, za6 rfl, za7 rfl⟩
noncomputable def ti57 : TI := ⟨Go.Proofs.Tryz.t56.desc, 5, 64, [.lit false, .nilsl, .int .i64 0, .int .i64 0, .str []]⟩
theorem zvc : TI.ok Tryz.prog 57 ti57 := ⟨Tryz.underlying57, ⟨Tryz.t57, by kernel_rfl, by kernel_rfl, by kernel_rfl, fun _ => rfl⟩, rfl, za6 rfl, za7 rfl⟩
noncomputable def ti75 : TI := ⟨Go.Proofs.Tryz.t75.desc, 1, 8, [.nilfn]⟩
theorem zu6 : TI.ok Tryz.prog 75 ti75 := ⟨Tryz.underlying75, ⟨Tryz.t75, by kernel_rfl, by kernel_rfl, by kernel_rfl, fun _ => rfl⟩, rfl, za6 rfl, za7 rfl⟩
noncomputable def ti76 : TI := ⟨Go.Proofs.Tryz.t76.desc, 1, 8, [.nilfn]⟩
theorem zwn : TI.ok Tryz.prog 76 ti76 := ⟨Tryz.underlying76, ⟨Tryz.t76, by kernel_rfl, by kernel_rfl, by kernel_rfl, fun _ => rfl⟩, rfl, za6 rfl, za7 rfl⟩
noncomputable def ti78 : TI := ⟨Go.Proofs.Tryz.t77.desc, 3, 40, [.nilsl, .nilfn, .nilfn]⟩
theorem zu1 : TI.ok Tryz.prog 78 ti78 := ⟨Tryz.underlying78, ⟨Tryz.t78, by kernel_rfl, by kernel_rfl, by kernel_rfl, fun _ => rfl⟩, rfl, za6 rfl, za7 rfl⟩
noncomputable def ti79 : TI := ⟨Go.Proofs.Tryz.t79.desc, 21, 280, [.nilsl, .nilfn, .nilfn, .nilsl, .nilfn, .nilfn, .nilsl, .nilfn, .nilfn, .nilsl, .nilfn, .nilfn, .nilsl, .nilfn, .nilfn, .nilsl, .nilfn, .nilfn, .nilsl, .nilfn, .nilfn]⟩
theorem zv9 : TI.ok Tryz.prog 79 ti79 := ⟨Tryz.underlying79, ⟨Tryz.t79, by kernel_rfl, by kernel_rfl, by kernel_rfl, fun _ => rfl⟩, rfl, za6 rfl, za7 rfl⟩
noncomputable def ti84 : TI := ⟨Go.Proofs.Tryz.t84.desc, 1, 8, [.nilfn]⟩
theorem zwd : TI.ok Tryz.prog 84 ti84 := ⟨Tryz.underlying84, ⟨Tryz.t84, by kernel_rfl, by kernel_rfl, by kernel_rfl, fun _ => rfl⟩, rfl, za6 rfl, za7 rfl⟩
noncomputable def ti86 : TI := ⟨Go.Proofs.Tryz.t86.desc, 4, 32, [.int .i64 0, .int .i64 0, .int .i64 0, .int .i64 0]⟩
theorem zwp : TI.ok Tryz.prog 86 ti86 := ⟨Tryz.underlying86, ⟨Tryz.t86, by kernel_rfl, by kernel_rfl, by kernel_rfl, fun _ => rfl⟩, rfl, za6 rfl, za7 rfl⟩
noncomputable def ti88 : TI := ⟨Go.Proofs.Tryz.t87.desc, 5, 48, [.str [], .int .i64 0, .int .i64 0, .int .i64 0, .int .i64 0]⟩
theorem zvz : TI.ok Tryz.prog 88 ti88 := ⟨Tryz.underlying88, ⟨Tryz.t88, by kernel_rfl, by kernel_rfl, by kernel_rfl, fun _ => rfl⟩, rfl, za6 rfl, za7 rfl⟩
noncomputable def ti91 : TI := ⟨Go.Proofs.Tryz.t91.desc, 1, 8, [.nilptr]⟩
theorem zwa : TI.ok Tryz.prog 91 ti91 := ⟨Tryz.underlying91, ⟨Tryz.t91, by kernel_rfl, by kernel_rfl, by kernel_rfl, fun _ => rfl⟩, rfl, za6 rfl, za7 rfl⟩
noncomputable def ti92 : TI := ⟨Go.Proofs.Tryz.t92.desc, 1, 8, [.nilptr]⟩
theorem zu7 : TI.ok Tryz.prog 92 ti92 := ⟨Tryz.underlying92, ⟨Tryz.t92, by kernel_rfl, by kernel_rfl, by kernel_rfl, fun _ => rfl⟩, rfl, za6 rfl, za7 rfl⟩
noncomputable def ti94 : TI := ⟨Go.Proofs.Tryz.t94.desc, 1, 24, [.nilsl]⟩
theorem zux : TI.ok Tryz.prog 94 ti94 := ⟨Tryz.underlying94, ⟨Tryz.t94, by kernel_rfl, by kernel_rfl, by kernel_rfl, fun _ => rfl⟩, rfl, za6 rfl, za7 rfl⟩
noncomputable def ti96 : TI := ⟨Go.Proofs.Tryz.t95.desc, 5, 64, [.lit false, .nilsl, .int .i64 0, .int .i64 0, .str []]⟩
theorem zvb : TI.ok Tryz.prog 96 ti96 := ⟨Tryz.underlying96, ⟨Tryz.t96, by kernel_rfl, by kernel_rfl, by kernel_rfl, fun _ => rfl⟩, rfl, za6 rfl, za7 rfl⟩
noncomputable def ti98 : TI := ⟨Go.Proofs.Tryz.t98.desc, 1, 8, [.nilptr]⟩
theorem zwx : TI.ok Tryz.prog 98 ti98 := ⟨Tryz.underlying98, ⟨Tryz.t98, by kernel_rfl, by kernel_rfl, by kernel_rfl, fun _ => rfl⟩, rfl, za6 rfl, za7 rfl⟩
noncomputable def ti100 : TI := ⟨Go.Proofs.Tryz.t100.desc, 1, 8, [.nilptr]⟩
theorem zt2 : TI.ok Tryz.prog 100 ti100 := ⟨Tryz.underlying100, ⟨Tryz.t100, by kernel_rfl, by kernel_rfl, by kernel_rfl, fun _ => rfl⟩, rfl, za6 rfl, za7 rfl⟩
noncomputable def ti102 : TI := ⟨Go.Proofs.Tryz.t101.desc, 3, 32, [.str [], .int .i64 0, .lit false]⟩
theorem ztn : TI.ok Tryz.prog 102 ti102 := ⟨Tryz.underlying102, ⟨Tryz.t102, by kernel_rfl, by kernel_rfl, by kernel_rfl, fun _ => rfl⟩, rfl, za6 rfl, za7 rfl⟩
noncomputable def ti107 : TI := ⟨Go.Proofs.Tryz.t107.desc, 7, 168, [.nilsl, .nilsl, .nilsl, .nilsl, .nilsl, .nilsl, .nilsl]⟩
theorem zto : TI.ok Tryz.prog 107 ti107 := ⟨Tryz.underlying107, ⟨Tryz.t107, by kernel_rfl, by kernel_rfl, by kernel_rfl, fun _ => rfl⟩, rfl, za6 rfl, za7 rfl⟩
noncomputable def ti110 : TI := ⟨Go.Proofs.Tryz.t110.desc, 1, 8, [.nilfn]⟩
theorem zt9 : TI.ok Tryz.prog 110 ti110 := ⟨Tryz.underlying110, ⟨Tryz.t110, by kernel_rfl, by kernel_rfl, by kernel_rfl, fun _ => rfl⟩, rfl, za6 rfl, za7 rfl⟩
noncomputable def ti112 : TI := ⟨Go.Proofs.Tryz.t112.desc, 1, 8, [.nilptr]⟩
theorem zuf : TI.ok Tryz.prog 112 ti112 := ⟨Tryz.underlying112, ⟨Tryz.t112, by kernel_rfl, by kernel_rfl, by kernel_rfl, fun _ => rfl⟩, rfl, za6 rfl, za7 rfl⟩
noncomputable def ti115 : TI := ⟨Go.Proofs.Tryz.t115.desc, 1, 8, [.nilptr]⟩
theorem zs6 : TI.ok Tryz.prog 115 ti115 := ⟨Tryz.underlying115, ⟨Tryz.t115, by kernel_rfl, by kernel_rfl, by kernel_rfl, fun _ => rfl⟩, rfl, za6 rfl, za7 rfl⟩
noncomputable def ti117 : TI := ⟨Go.Proofs.Tryz.t116.desc, 2, 24, [.str [], .int .i64 0]⟩
theorem ztl : TI.ok Tryz.prog 117 ti117 := ⟨Tryz.underlying117, ⟨Tryz.t117, by kernel_rfl, by kernel_rfl, by kernel_rfl, fun _ => rfl⟩, rfl, za6 rfl, za7 rfl⟩
noncomputable def ti120 : TI := ⟨Go.Proofs.Tryz.t119.desc, 2, 40, [.str [], .nilsl]⟩
theorem ztt : TI.ok Tryz.prog 120 ti120 := ⟨Tryz.underlying120, ⟨Tryz.t120, by kernel_rfl, by kernel_rfl, by kernel_rfl, fun _ => rfl⟩, rfl, za6 rfl, za7 rfl⟩
noncomputable def ti130 : TI := ⟨Go.Proofs.Tryz.t130.desc, 1, 8, [.int .u64 0]⟩
theorem zua : TI.ok Tryz.prog 130 ti130 := ⟨Tryz.underlying130, ⟨Tryz.t130, by kernel_rfl, by kernel_rfl, by kernel_rfl, fun _ => rfl⟩, rfl, za6 rfl, za7 rfl⟩
noncomputable def ti138 : TI := ⟨Go.Proofs.Tryz.t138.desc, 1, 8, [.nilptr]⟩
theorem zsj : TI.ok Tryz.prog 138 ti138 := ⟨Tryz.underlying138, ⟨Tryz.t138, by kernel_rfl, by kernel_rfl, by kernel_rfl, fun _ => rfl⟩, rfl, za6 rfl, za7 rfl⟩
noncomputable def ti140 : TI := ⟨Go.Proofs.Tryz.t139.desc, 2, 32, [.nilptr, .nilsl]⟩
theorem zsx : TI.ok Tryz.prog 140 ti140 := ⟨Tryz.underlying140, ⟨Tryz.t140, by kernel_rfl, by kernel_rfl, by kernel_rfl, fun _ => rfl⟩, rfl, za6 rfl, za7 rfl⟩
noncomputable def ti155 : TI := ⟨Go.Proofs.Tryz.t155.desc, 1, 8, [.nilptr]⟩
theorem zsv : TI.ok Tryz.prog 155 ti155 := ⟨Tryz.underlying155, ⟨Tryz.t155, by kernel_rfl, by kernel_rfl, by kernel_rfl, fun _ => rfl⟩, rfl, za6 rfl, za7 rfl⟩
noncomputable def ti157 : TI := ⟨Go.Proofs.Tryz.t157.desc, 1, 8, [.nilfn]⟩
theorem zsu : TI.ok Tryz.prog 157 ti157 := ⟨Tryz.underlying157, ⟨Tryz.t157, by kernel_rfl, by kernel_rfl, by kernel_rfl, fun _ => rfl⟩, rfl, za6 rfl, za7 rfl⟩
noncomputable def ti164 : TI := ⟨Go.Proofs.Tryz.t164.desc, 1, 8, [.int .u64 0]⟩
theorem zst : TI.ok Tryz.prog 164 ti164 := ⟨Tryz.underlying164, ⟨Tryz.t164, by kernel_rfl, by kernel_rfl, by kernel_rfl, fun _ => rfl⟩, rfl, za6 rfl, za7 rfl⟩
noncomputable def ti177 : TI := ⟨Go.Proofs.Tryz.t177.desc, 1, 8, [.nilptr]⟩
theorem zrz : TI.ok Tryz.prog 177 ti177 := ⟨Tryz.underlying177, ⟨Tryz.t177, by kernel_rfl, by kernel_rfl, by kernel_rfl, fun _ => rfl⟩, rfl, za6 rfl, za7 rfl⟩
noncomputable def ti179 : TI := ⟨Go.Proofs.Tryz.t178.desc, 1, 16, [.nilif]⟩
theorem zue : TI.ok Tryz.prog 179 ti179 := ⟨Tryz.underlying179, ⟨Tryz.t179, by kernel_rfl, by kernel_rfl, by kernel_rfl, fun _ => rfl⟩, rfl, za6 rfl, za7 rfl⟩
noncomputable def ti184 : TI := ⟨Go.Proofs.Tryz.t184.desc, 1, 8, [.nilfn]⟩
theorem zts : TI.ok Tryz.prog 184 ti184 := ⟨Tryz.underlying184, ⟨Tryz.t184, by kernel_rfl, by kernel_rfl, by kernel_rfl, fun _ => rfl⟩, rfl, za6 rfl, za7 rfl⟩
noncomputable def ti194 : TI := ⟨Go.Proofs.Tryz.t194.desc, 6, 48, [.int .i64 0, .int .i64 0, .int .i64 0, .int .i64 0, .int .i64 0, .int .i64 0]⟩
theorem zr6 : TI.ok Tryz.prog 194 ti194 := ⟨Tryz.underlying194, ⟨Tryz.t194, by kernel_rfl, by kernel_rfl, by kernel_rfl, fun _ => rfl⟩, rfl, za6 rfl, za7 rfl⟩
noncomputable def ti201 : TI := ⟨Go.Proofs.Tryz.t201.desc, 1, 4, [.int .u32 0]⟩
theorem zsy : TI.ok Tryz.prog 201 ti201 := ⟨Tryz.underlying201, ⟨Tryz.t201, by kernel_rfl, by kernel_rfl, by kernel_rfl, fun _ => rfl⟩, rfl, za6 rfl, za7 rfl⟩
noncomputable def ti210 : TI := ⟨Go.Proofs.Tryz.t210.desc, 1, 8, [.nilptr]⟩
theorem zty : TI.ok Tryz.prog 210 ti210 := ⟨Tryz.underlying210, ⟨Tryz.t210, by kernel_rfl, by kernel_rfl, by kernel_rfl, fun _ => rfl⟩, rfl, za6 rfl, za7 rfl⟩
noncomputable def ti216 : TI := ⟨Go.Proofs.Tryz.t216.desc, 1, 24, [.nilsl]⟩
theorem ztr : TI.ok Tryz.prog 216 ti216 := ⟨Tryz.underlying216, ⟨Tryz.t216, by kernel_rfl, by kernel_rfl, by kernel_rfl, fun _ => rfl⟩, rfl, za6 rfl, za7 rfl⟩
noncomputable def ti221 : TI := ⟨Go.Proofs.Tryz.t220.desc, 2, 2, [.int .u8 0, .int .u8 0]⟩
theorem zt8 : TI.ok Tryz.prog 221 ti221 := ⟨Tryz.underlying221, ⟨Tryz.t221, by kernel_rfl, by kernel_rfl, by kernel_rfl, fun _ => rfl⟩, rfl, za6 rfl, za7 rfl⟩
noncomputable def ti222 : TI := ⟨Go.Proofs.Tryz.t222.desc, 32, 32, [.int .u8 0, .int .u8 0, .int .u8 0, .int .u8 0, .int .u8 0, .int .u8 0, .int .u8 0, .int .u8 0, .int .u8 0, .int .u8 0, .int .u8 0, .int .u8 0, .int .u8 0, .int .u8 0, .int .u8 0, .int .u8 0, .int .u8 0, .int .u8 0, .int .u8 0, .int .u8 0, .int .u8 0, .int .u8 0, .int .u8 0, .int .u8 0, .int .u8 0, .int .u8 0, .int .u8 0, .int .u8 0, .int .u8 0, .int .u8 0, .int .u8 0, .int .u8 0]⟩
theorem zs3 : TI.ok Tryz.prog 222 ti222 := ⟨Tryz.underlying222, ⟨Tryz.t222, by kernel_rfl, by kernel_rfl, by kernel_rfl, fun _ => rfl⟩, rfl, za6 rfl, za7 rfl⟩
noncomputable def ti223 : TI := ⟨Go.Proofs.Tryz.t223.desc, 1, 8, [.nilptr]⟩
theorem zt6 : TI.ok Tryz.prog 223 ti223 := ⟨Tryz.underlying223, ⟨Tryz.t223, by kernel_rfl, by kernel_rfl, by kernel_rfl, fun _ => rfl⟩, rfl, za6 rfl, za7 rfl⟩
noncomputable def ti228 : TI := ⟨Go.Proofs.Tryz.t227.desc, 3, 12, [.int .i32 0, .int .i32 0, .int .i32 0]⟩
theorem zs5 : TI.ok Tryz.prog 228 ti228 := ⟨Tryz.underlying228, ⟨Tryz.t228, by kernel_rfl, by kernel_rfl, by kernel_rfl, fun _ => rfl⟩, rfl, za6 rfl, za7 rfl⟩
noncomputable def ti230 : TI := ⟨Go.Proofs.Tryz.t229.desc, 5, 20, [.int .u32 0, .int .u32 0, .int .i32 0, .int .i32 0, .int .i32 0]⟩
theorem ztj : TI.ok Tryz.prog 230 ti230 := ⟨Tryz.underlying230, ⟨Tryz.t230, by kernel_rfl, by kernel_rfl, by kernel_rfl, fun _ => rfl⟩, rfl, za6 rfl, za7 rfl⟩
noncomputable def ti233 : TI := ⟨Go.Proofs.Tryz.t233.desc, 0, 0, []⟩
theorem zt1 : TI.ok Tryz.prog 233 ti233 := ⟨Tryz.underlying233, ⟨Tryz.t233, by kernel_rfl, by kernel_rfl, by kernel_rfl, fun _ => rfl⟩, rfl, za6 rfl, za7 rfl⟩
noncomputable def ti235 : TI := ⟨Go.Proofs.Tryz.t234.desc, 0, 0, []⟩
theorem zs9 : TI.ok Tryz.prog 235 ti235 := ⟨Tryz.underlying235, ⟨Tryz.t235, by kernel_rfl, by kernel_rfl, by kernel_rfl, fun _ => rfl⟩, rfl, za6 rfl, za7 rfl⟩
noncomputable def tab : Tr := (.node 92 (.node 29 (.node 7 (.node 3 (.leaf [(1, ti1), (2, ti2), (3, ti3)]) (.leaf [(4, ti4), (5, ti5), (6, ti6), (7, ti7)])) (.node 21 (.leaf [(9, ti9), (16, ti16), (20, ti20), (21, ti21)]) (.leaf [(22, ti22), (23, ti23), (28, ti28), (29, ti29)]))) (.node 75 (.node 41 (.leaf [(37, ti37), (40, ti40), (41, ti41)]) (.leaf [(50, ti50), (55, ti55), (57, ti57), (75, ti75)])) (.node 84 (.leaf [(76, ti76), (78, ti78), (79, ti79), (84, ti84)]) (.leaf [(86, ti86), (88, ti88), (91, ti91), (92, ti92)])))) (.node 155 (.node 110 (.node 98 (.leaf [(94, ti94), (96, ti96), (98, ti98)]) (.leaf [(100, ti100), (102, ti102), (107, ti107), (110, ti110)])) (.node 120 (.leaf [(112, ti112), (115, ti115), (117, ti117), (120, ti120)]) (.leaf [(130, ti130), (138, ti138), (140, ti140), (155, ti155)]))) (.node 210 (.node 179 (.leaf [(157, ti157), (164, ti164), (177, ti177), (179, ti179)]) (.leaf [(184, ti184), (194, ti194), (201, ti201), (210, ti210)])) (.node 223 (.leaf [(216, ti216), (221, ti221), (222, ti222), (223, ti223)]) (.leaf [(228, ti228), (230, ti230), (233, ti233), (235, ti235)])))))
noncomputable def Θ : Tys := tab.get
theorem hΘ : Tys.Ok Tryz.prog Θ := Tr.ok tab ⟨⟨⟨⟨⟨zw9, ⟨zw8, ⟨zxn, trivial⟩⟩⟩, ⟨zw1, ⟨zxt, ⟨zw4, ⟨zxm, trivial⟩⟩⟩⟩⟩, ⟨⟨zx6, ⟨zuz, ⟨zwv, ⟨zwc, trivial⟩⟩⟩⟩, ⟨zvg, ⟨zvj, ⟨zvn, ⟨zvu, trivial⟩⟩⟩⟩⟩⟩, ⟨⟨⟨zvp, ⟨zwe, ⟨zv8, trivial⟩⟩⟩, ⟨zve, ⟨zwo, ⟨zvc, ⟨zu6, trivial⟩⟩⟩⟩⟩, ⟨⟨zwn, ⟨zu1, ⟨zv9, ⟨zwd, trivial⟩⟩⟩⟩, ⟨zwp, ⟨zvz, ⟨zwa, ⟨zu7, trivial⟩⟩⟩⟩⟩⟩⟩, ⟨⟨⟨⟨zux, ⟨zvb, ⟨zwx, trivial⟩⟩⟩, ⟨zt2, ⟨ztn, ⟨zto, ⟨zt9, trivial⟩⟩⟩⟩⟩, ⟨⟨zuf, ⟨zs6, ⟨ztl, ⟨ztt, trivial⟩⟩⟩⟩, ⟨zua, ⟨zsj, ⟨zsx, ⟨zsv, trivial⟩⟩⟩⟩⟩⟩, ⟨⟨⟨zsu, ⟨zst, ⟨zrz, ⟨zue, trivial⟩⟩⟩⟩, ⟨zts, ⟨zr6, ⟨zsy, ⟨zty, trivial⟩⟩⟩⟩⟩, ⟨⟨ztr, ⟨zt8, ⟨zs3, ⟨zt6, trivial⟩⟩⟩⟩, ⟨zs5, ⟨ztj, ⟨zt1, ⟨zs9, trivial⟩⟩⟩⟩⟩⟩⟩⟩
end Go.Proofs.YtblllibdahkgfaaGreatDoor

namespace Go.Proofs.YtblllibdahkgfaaGreatDoor
open Go Sx
set_option maxRecDepth 100000
theorem zse : (Tryz.prog.fieldsOf 50).toList = [⟨ "Kind", 3, 0, false, "", "", 0⟩, ⟨ "N", 3, 1, false, "", "", 8⟩] := by kernel_rfl
theorem agg50 (a b c d : Int) : AggEq Tryz.prog 50 [.int .i64 a, .int .i64 b] [.int .i64 c, .int .i64 d] (decide (a = c) && decide (b = d)) := by
 unfold AggEq
 intro ρ w op x y
 refine ⟨run_eqGuard_agg _ _ _ _ _ _ _ Tryz.eqGuardType50, ?_⟩
 have h1 := run_equalIn_agg (P := Tryz.prog) w (9998 + 1) 50 #[.int .i64 a, .int .i64 b] #[.int .i64 c, .int .i64 d] (by kernel_rfl) Tryz.stoodInHeld50
 have h2 : (Op.eqFields (9998 + 1) #[Value.int .i64 a, .int .i64 b] #[Value.int .i64 c, .int .i64 d] (Tryz.prog.fieldsOf 50).toList).run Tryz.prog w = .ok (decide (a = c) && decide (b = d)) w := by
  rw [zse]
  have p1 : ∀ (u v : Int), (Op.equalIn (9998 + 1) 3 (.int .i64 u) (.int .i64 v)).run Tryz.prog w = .ok (u == v) w := fun u v => run_equalIn_int w 9998 3 .i64 .i64 u v Tryz.underlying3
  have q : (isAgg 3).run Tryz.prog w = .ok false w := Tryz.isAgg3 w
  by_cases e1 : a = c <;> by_cases e2 : b = d <;> simp [Op.eqFields, part, q, p1, e1, e2]
 exact h1.trans h2
end Go.Proofs.YtblllibdahkgfaaGreatDoor

namespace Go.Proofs.YtblllibdahkgfaaGreatDoor
open Go Sx
set_option maxRecDepth 100000
abbrev Stp := Int × Int
def enc (s : Stp) : List SA := [.int .i64 s.1, .int .i64 s.2]
def encI (n : Int) : List SA := [.int .i64 n]
abbrev za4 (F : Fz) (a : SA) (l : List Stp) : Prop := Sl F 50 2 enc a l
abbrev zeh (F : Fz) (a : SA) (l : List Int) : Prop := Sl F 3 1 encI a l
theorem zwi (μ : Mu) (l : List Stp) : (l.map enc).map (List.map (SA.ren μ)) = l.map enc := by
 rw [List.map_map]; exact List.map_congr_left fun s _ => rfl
theorem ztq (μ : Mu) (l : List Int) : (l.map encI).map (List.map (SA.ren μ)) = l.map encI := by
 rw [List.map_map]; exact List.map_congr_left fun s _ => rfl
theorem zd8 (μ : Mu) (l : List Stp) (c : Nat) : (SB.arr 50 2 (l.map enc) c).ren μ = SB.arr 50 2 (l.map enc) c := by
 show SB.arr 50 2 ((l.map enc).map (List.map (SA.ren μ))) c = _; rw [zwi]
theorem zb5 (μ : Mu) (l : List Int) (c : Nat) : (SB.arr 3 1 (l.map encI) c).ren μ = SB.arr 3 1 (l.map encI) c := by
 show SB.arr 3 1 ((l.map encI).map (List.map (SA.ren μ))) c = _; rw [ztq]
theorem zcj (n : Nat) (l : List Stp) (c : Nat) : (SB.arr 50 2 (l.map enc) c).below n := by
 intro x hx a ha
 obtain ⟨s, _, rfl⟩ := List.mem_map.1 hx
 simp only [enc, List.mem_cons, List.not_mem_nil, or_false] at ha
 rcases ha with rfl | rfl <;> trivial
theorem zbt (n : Nat) (l : List Int) (c : Nat) : (SB.arr 3 1 (l.map encI) c).below n := by
 intro x hx a ha
 obtain ⟨s, _, rfl⟩ := List.mem_map.1 hx
 simp only [encI, List.mem_cons, List.not_mem_nil, or_false] at ha
 subst ha; trivial
theorem zaj {n : Int} (h1 : -9223372036854775808 ≤ n) (h2 : n ≤ 9223372036854775807) : IntKind.i64.wrap n = n := IntWalk.i64_in _ (by omega)
theorem cnt {k : Nat} (h : k < 4611686018427387904) : SA.int .i64 ((k + 1 : Nat) : Int) = SA.int .i64 (IntKind.i64.wrap ((k : Int) + 1)) := by
 rw [zaj (by omega) (by omega)]; rfl
theorem neq_f {x y : Nat} (h : (!decide ((x : Int) = y)) = false) : x = y := by
 simp at h; omega
theorem mixed : Tryz.prog.follows .mixedOrders = true := by kernel_rfl
set_option maxHeartbeats 1000000 in
theorem zvi (F : Fz) (sa sb : SA) (a b : List Stp) (ha : za4 F sa a) (hb : za4 F sb b) (la : a.length < 1000000) :
  Fo Tryz.prog F 19 [.va sa, .va sb] (fun o F' => o = .ret (.va (.bool (decide (a = b)))) ∧ F' = F) := by
 obtain ⟨na, ba, ea, ca, La, ra, rfl, ha1, ha2, ha3, ha4⟩ := ha
 obtain ⟨nb, bb, eb, cb, Lb, rb, rfl, hb1, hb2, hb3, hb4⟩ := hb
 have fin : ∀ (v : Bool) (h : Hp) (nx : Nat), v = decide (a = b) → lget h 0 = some (.frz F) →
   Cln 1 (FoK F fun o F' => o = .ret (.va (.bool (decide (a = b)))) ∧ F' = F) (.ret (.va (.bool v))) h nx := by
  intro v h nx hv h0
  exact endPu h0 (Fz.le_refl F) (by rw [hv]; rfl) rfl
 refine fo_of hΘ Tryz.func19 rfl (by decide) _ _ rfl rfl rfl ?_;conv=>whnf
 refine br (fun g => ?_) (fun g => ?_)
 ·conv=>whnf
  refine fin _ _ _ ?_ rfl
  have : ¬ a = b := by rintro rfl; simp at g
  simp [this]
 ·have gl : a.length = b.length := neq_f g
  conv=>whnf
  refine za0 hΘ (X := { k : Nat // k ≤ a.length ∧ a.take k = b.take k }) (fun k => [(5, .va (.int .i64 k.1))]) [4, 11, 12, 13, 14, 15, 16, 17, 18, 19, 20, 21, 22, 23, 24, 25] (fz fun _ => F) 1 (fun k => a.length - k.1) ⟨0, by simp⟩
   (fun hH hT => le0 hH hT rfl (Fz.le_refl F) rfl ⟨rfl, trivial⟩) ?_
  rintro ⟨k, hk, hp⟩ hH hT;conv=>whnf
  refine br (fun g => ?_) (fun g => ?_)
  ·have g : k < a.length := by simpa using g
   have gb : k < b.length := by omega
   conv=>whnf
   refine draw hΘ mixed [(0, true), (1, true), (2, true), (3, true), (4, true), (5, true), (6, true), (7, true), (8, true)] [] (by kernel_rfl) ?_;conv=>whnf
   refine ⟨Sl.lt ha1 g, ⟨by simp, by simpa using g⟩, ?_⟩;conv=>whnf
   refine ⟨rfl, ?_⟩;conv=>whnf
   refine ⟨_, ha2 (Sl.lt ha1 g), ?_⟩;conv=>whnf
   refine ⟨_, Sl.at ha4 g, ?_⟩;conv=>whnf
   refine ⟨Sl.lt hb1 gb, ⟨by simp, by simpa using gb⟩, ?_⟩;conv=>whnf
   refine ⟨rfl, ?_⟩;conv=>whnf
   refine ⟨_, hb2 (Sl.lt hb1 gb), ?_⟩;conv=>whnf
   refine ⟨_, Sl.at hb4 gb, ?_⟩;conv=>whnf
   refine ⟨_, agg50 _ _ _ _, ?_⟩;conv=>whnf
   refine br (fun g2 => ?_) (fun g2 => ?_)
   ·conv=>whnf
    refine fin _ _ _ ?_ rfl
    have : ¬ a = b := by rintro rfl; simp at g2
    simp [this]
   ·conv=>whnf
    refine ⟨⟨k + 1, by omega, ?_⟩, by show a.length - (k + 1) < a.length - k; omega, lr0 hH hT rfl (Fz.le_refl F) rfl ⟨cnt (by omega), trivial⟩⟩
    have h3 : a[k] = b[k] := by
     simp at g2; exact Prod.ext g2.1 g2.2
    rw [List.take_succ_eq_append_getElem g, List.take_succ_eq_append_getElem gb, hp, h3]
  ·conv=>whnf
   refine fin _ _ _ ?_ rfl
   have g : ¬ k < a.length := by simpa using g
   have h1 : a = b := by
    rw [List.take_of_length_le (by omega), List.take_of_length_le (by omega)] at hp; exact hp
   simp [h1]
end Go.Proofs.YtblllibdahkgfaaGreatDoor

namespace Go.Proofs.YtblllibdahkgfaaGreatDoor
open Go Go.RowKit Sx
def Holds (F : Fz) (w : World) : Prop := ∀ b B, F b = some B → B.below 1 ∧ ∃ o, w.heap[b]? = some o ∧ ∀ ρ : Rho, (∀ k, ρ 0 k = k) → B.ok ρ o
theorem lget0 {F : Fz} {i : Nat} {e : Ent} (h : lget [[(0, Ent.frz F)]] i = some e) : i = 0 ∧ e = .frz F := by
 cases i with
 | zero => exact ⟨rfl, by cases h; rfl⟩
 | succ i => simp [lget, aget, Nat.beq] at h
def ctx0 (W : World) : Ctx := { w0 := W, ρ0 := fun _ k => k, n0 := 1, B := fun _ => False, R := fun _ => True }
theorem satF {C : Ctx} {ρ : Rho} {F : Fz} {w : World} (hF : Holds F w) (h0 : ∀ k, ρ 0 k = k) (hn : C.n0 = 1) (ha : ∀ k, ρ 0 k = C.ρ0 0 k) (hos : w.os = C.w0.os) (htape : w.tape = C.w0.tape) (hout : w.output = C.w0.output) (hsz : C.w0.heap.size ≤ w.heap.size)
  (hfr : ∀ b, b < C.w0.heap.size → ¬ C.B b → w.heap[b]? = C.w0.heap[b]?) (hown : ∀ k, (F k).isSome = true → C.R k ∨ C.B k ∨ C.w0.heap.size ≤ k) : Sat C ρ [[(0, .frz F)]] 1 w where
 lt := fun i e h => by obtain ⟨rfl, rfl⟩ := lget0 h; omega
 blk := fun i e h k hk => by
  obtain ⟨rfl, rfl⟩ := lget0 h
  have hk : (F k).isSome = true := hk
  obtain ⟨B, hB⟩ := Option.isSome_iff_exists.1 hk
  obtain ⟨_, o, ho, hok⟩ := hF k B hB
  exact ⟨o, by rw [h0]; exact ho, by simp only [Ent.at, hB, Option.getD_some]; exact hok ρ h0⟩
 wf := fun i e h k hk => by
  obtain ⟨rfl, rfl⟩ := lget0 h
  have hk : (F k).isSome = true := hk
  obtain ⟨B, hB⟩ := Option.isSome_iff_exists.1 hk
  simp only [Ent.at, hB, Option.getD_some]; exact (hF k B hB).1
 inj := fun i k i' k' h h' e => by
  obtain ⟨_, h, _⟩ := h; obtain ⟨_, h', _⟩ := h'
  obtain ⟨rfl, _⟩ := lget0 h; obtain ⟨rfl, _⟩ := lget0 h'
  rw [h0, h0] at e; exact ⟨rfl, e⟩
 anch := fun i hi k => by
  rw [hn] at hi
  obtain rfl : i = 0 := by omega
  exact ha k
 n0 := by omega
 n1 := by omega
 os := hos
 tape := htape
 output := hout
 size := hsz
 fr := hfr
 own := fun i k h => by
  obtain ⟨e, h, hk⟩ := h
  obtain ⟨rfl, rfl⟩ := lget0 h
  have hk : (F k).isSome = true := hk
  rw [h0]
  rcases hown k hk with h | h | h
  ·exact .inl ⟨rfl, h⟩
  ·exact .inr (.inl h)
  ·exact .inr (.inr h)
 fz := ⟨F, rfl, fun b B hB => (hF b B hB).1⟩
 id0 := h0
 only := fun i F' h => (lget0 h).1
 lnk := fun i b h => by obtain ⟨_, h⟩ := lget0 h; cases h
theorem zmz {P : Program} {F : Fz} {f : FuncId} {args : List SV} {vs : List Value} {W : World} (h : Fo P F f args fun o _ => o = .ret (.va (.bool true)) ∧ True) (hF : Holds F W) (hr : relL (fun _ k => k) args vs) (hb : ∀ s ∈ args, s.below 1) :
  Calls P f vs.toArray W fun e W' => e = .returned (.bool true) ∧ Below W.heap.size W W' := by
 unfold Fo zcb at h
 have S0 : Sat (ctx0 W) (fun _ k => k) [[(0, .frz F)]] 1 W := satF hF (fun _ => rfl) rfl (fun _ => rfl) rfl rfl rfl (Nat.le_refl _) (fun _ _ _ => rfl) (fun _ _ => .inl trivial)
 have h2 := (h (ctx0 W) _ W vs S0 hr hb).2
 refine h2.mono ?_
 rintro e w' ⟨out, h', nx', ρ', hk, hrel, S, hag, hle, hbl⟩
 unfold Cln at hk
 obtain ⟨out0, F0, h0, n0, ρ0, ⟨k1, k2, k3, k4, k5⟩, r1, r2, S0, _⟩ := hk (ctx0 W) ρ' w' e rfl S hrel (by cases out <;> first | exact hbl | trivial)
 obtain ⟨rfl, -⟩ := k5
 obtain ⟨v, rfl, hv⟩ := r1
 refine ⟨by rw [hv]; rfl, ⟨S0.os, S0.tape, S0.output, S0.size, fun k hk => S0.fr k hk (fun h => h.elim)⟩⟩
end Go.Proofs.YtblllibdahkgfaaGreatDoor

namespace Go.Proofs.YtblllibdahkgfaaGreatDoor
open Go Go.RowKit Sx
attribute [local go_sem] Oper.semAt_some
def RawB (B : SB) (i : Nat) (z : Int) : Prop :=
 match B with
 | .obj (.cells cs _ _) => cs[i]? = some (.int .i64 z)
 | .cells _ l => l[i]? = some (.int .i64 z)
 | _ => False
def RawAt (F : Fz) (b off : Nat) (zs : List Int) : Prop := zs = [] ∨ ∃ B, F b = some B ∧ ∀ j (h : j < zs.length), RawB B (off + j) zs[j]
theorem RawAt.mono {F F' : Fz} {b off : Nat} {zs : List Int} (h : RawAt F b off zs) (hle : Fz.le F F') : RawAt F' b off zs := by
 rcases h with h | ⟨B, h1, h2⟩
 ·exact .inl h
 ·exact .inr ⟨B, hle _ _ h1, h2⟩
theorem RawB.cell {B : SB} {i b : Nat} {z : Int} {o : Obj} {ρ : Rho} {w : World} (h : RawB B i z) (hok : B.ok ρ o) (ho : w.heap[b]? = some o) : w.cell? ⟨b, i, none⟩ = some (.int .i64 z) := by
 cases B with
 | obj o' =>
  have hok : o = o' := hok
  subst hok
  cases o with
  | cells cs t fr =>
   have h : cs[i]? = some (.int .i64 z) := h
   simp [World.cell?, ho, h]
  | _ => exact h.elim
 | cells t l =>
  have h : l[i]? = some (.int .i64 z) := h
  obtain ⟨fr, _, rfl⟩ := hok
  simp [World.cell?, ho, h, SA.den]
 | arr t sz L room => exact h.elim
theorem zi9 : ∀ (l : List SA) (i : Nat) (x : SA), l[i]? = some x → ze2 l i 1 = some [x]
 | [], i, x, h => by simp at h
 | y :: r, 0, x, h => by
  simp at h; subst h
  cases r <;> rfl
 | y :: r, i + 1, x, h => by
  simp at h
  exact zi9 r i x h
end Go.Proofs.YtblllibdahkgfaaGreatDoor

namespace Go.Proofs.YtblllibdahkgfaaGreatDoor
open Go Go.RowKit Sx
theorem RawAt.cells {F : Fz} {b off : Nat} {zs : List Int} {w : World} (h : RawAt F b off zs) (hH : Holds F w) (j : Nat) (hj : j < zs.length) : w.cell? ⟨b, off + j, none⟩ = some (.int .i64 zs[j]) := by
 rcases h with h | ⟨B, h1, h2⟩
 ·subst h; simp at hj
 ·obtain ⟨_, o, ho, hok⟩ := hH _ _ h1
  exact (h2 j hj).cell (hok (fun _ k => k) (fun _ => rfl)) ho
end Go.Proofs.YtblllibdahkgfaaGreatDoor
