import Derived.Test.YtblllibdahkgfaaGreatDoorProg
import Derived.Test.YtblllibdahkgfaaGreatDoorK10
import Derived.KernelRfl

/- The table of the program's types, for the symbolic executor; each row is checked by the kernel. Written by a program (gentab.py). -/
namespace Go.Proofs.YtblllibdahkgfaaGreatDoor
open Go Sx
set_option maxRecDepth 100000
noncomputable def ti1 : TI := ⟨Go.Proofs.Tryz.t1.desc, 1, 8, [.nilfn]⟩
theorem ti1_ok : TI.ok Tryz.prog 1 ti1 := ⟨Tryz.underlying1, ⟨Tryz.t1, by kernel_rfl, by kernel_rfl, by kernel_rfl, fun _ => rfl⟩, rfl, bel_of rfl, one_of rfl⟩
noncomputable def ti2 : TI := ⟨Go.Proofs.Tryz.t2.desc, 1, 8, [.int .i64 0]⟩
theorem ti2_ok : TI.ok Tryz.prog 2 ti2 := ⟨Tryz.underlying2, ⟨Tryz.t2, by kernel_rfl, by kernel_rfl, by kernel_rfl, fun _ => rfl⟩, rfl, bel_of rfl, one_of rfl⟩
noncomputable def ti3 : TI := ⟨Go.Proofs.Tryz.t3.desc, 1, 8, [.int .i64 0]⟩
theorem ti3_ok : TI.ok Tryz.prog 3 ti3 := ⟨Tryz.underlying3, ⟨Tryz.t3, by kernel_rfl, by kernel_rfl, by kernel_rfl, fun _ => rfl⟩, rfl, bel_of rfl, one_of rfl⟩
noncomputable def ti4 : TI := ⟨Go.Proofs.Tryz.t4.desc, 1, 1, [.lit false]⟩
theorem ti4_ok : TI.ok Tryz.prog 4 ti4 := ⟨Tryz.underlying4, ⟨Tryz.t4, by kernel_rfl, by kernel_rfl, by kernel_rfl, fun _ => rfl⟩, rfl, bel_of rfl, one_of rfl⟩
noncomputable def ti5 : TI := ⟨Go.Proofs.Tryz.t5.desc, 1, 1, [.int .u8 0]⟩
theorem ti5_ok : TI.ok Tryz.prog 5 ti5 := ⟨Tryz.underlying5, ⟨Tryz.t5, by kernel_rfl, by kernel_rfl, by kernel_rfl, fun _ => rfl⟩, rfl, bel_of rfl, one_of rfl⟩
noncomputable def ti6 : TI := ⟨Go.Proofs.Tryz.t5.desc, 1, 1, [.int .u8 0]⟩
theorem ti6_ok : TI.ok Tryz.prog 6 ti6 := ⟨Tryz.underlying6, ⟨Tryz.t6, by kernel_rfl, by kernel_rfl, by kernel_rfl, fun _ => rfl⟩, rfl, bel_of rfl, one_of rfl⟩
noncomputable def ti7 : TI := ⟨Go.Proofs.Tryz.t7.desc, 4, 24, [.int .i64 0, .int .i64 0, .lit false, .int .u8 0]⟩
theorem ti7_ok : TI.ok Tryz.prog 7 ti7 := ⟨Tryz.underlying7, ⟨Tryz.t7, by kernel_rfl, by kernel_rfl, by kernel_rfl, fun _ => rfl⟩, rfl, bel_of rfl, one_of rfl⟩
noncomputable def ti8 : TI := ⟨Go.Proofs.Tryz.t7.desc, 4, 24, [.int .i64 0, .int .i64 0, .lit false, .int .u8 0]⟩
theorem ti8_ok : TI.ok Tryz.prog 8 ti8 := ⟨Tryz.underlying8, ⟨Tryz.t8, by kernel_rfl, by kernel_rfl, by kernel_rfl, fun _ => rfl⟩, rfl, bel_of rfl, one_of rfl⟩
noncomputable def ti9 : TI := ⟨Go.Proofs.Tryz.t9.desc, 1, 16, [.str []]⟩
theorem ti9_ok : TI.ok Tryz.prog 9 ti9 := ⟨Tryz.underlying9, ⟨Tryz.t9, by kernel_rfl, by kernel_rfl, by kernel_rfl, fun _ => rfl⟩, rfl, bel_of rfl, one_of rfl⟩
noncomputable def ti10 : TI := ⟨Go.Proofs.Tryz.t9.desc, 1, 16, [.str []]⟩
theorem ti10_ok : TI.ok Tryz.prog 10 ti10 := ⟨Tryz.underlying10, ⟨Tryz.t10, by kernel_rfl, by kernel_rfl, by kernel_rfl, fun _ => rfl⟩, rfl, bel_of rfl, one_of rfl⟩
noncomputable def ti11 : TI := ⟨Go.Proofs.Tryz.t9.desc, 1, 16, [.str []]⟩
theorem ti11_ok : TI.ok Tryz.prog 11 ti11 := ⟨Tryz.underlying11, ⟨Tryz.t11, by kernel_rfl, by kernel_rfl, by kernel_rfl, fun _ => rfl⟩, rfl, bel_of rfl, one_of rfl⟩
noncomputable def ti12 : TI := ⟨Go.Proofs.Tryz.t12.desc, 1, 8, [.int .u64 0]⟩
theorem ti12_ok : TI.ok Tryz.prog 12 ti12 := ⟨Tryz.underlying12, ⟨Tryz.t12, by kernel_rfl, by kernel_rfl, by kernel_rfl, fun _ => rfl⟩, rfl, bel_of rfl, one_of rfl⟩
noncomputable def ti13 : TI := ⟨Go.Proofs.Tryz.t13.desc, 2, 24, [.str [], .int .u64 0]⟩
theorem ti13_ok : TI.ok Tryz.prog 13 ti13 := ⟨Tryz.underlying13, ⟨Tryz.t13, by kernel_rfl, by kernel_rfl, by kernel_rfl, fun _ => rfl⟩, rfl, bel_of rfl, one_of rfl⟩
noncomputable def ti14 : TI := ⟨Go.Proofs.Tryz.t13.desc, 2, 24, [.str [], .int .u64 0]⟩
theorem ti14_ok : TI.ok Tryz.prog 14 ti14 := ⟨Tryz.underlying14, ⟨Tryz.t14, by kernel_rfl, by kernel_rfl, by kernel_rfl, fun _ => rfl⟩, rfl, bel_of rfl, one_of rfl⟩
noncomputable def ti15 : TI := ⟨Go.Proofs.Tryz.t15.desc, 1, 8, [.nilptr]⟩
theorem ti15_ok : TI.ok Tryz.prog 15 ti15 := ⟨Tryz.underlying15, ⟨Tryz.t15, by kernel_rfl, by kernel_rfl, by kernel_rfl, fun _ => rfl⟩, rfl, bel_of rfl, one_of rfl⟩
noncomputable def ti16 : TI := ⟨Go.Proofs.Tryz.t16.desc, 1, 8, [.nilptr]⟩
theorem ti16_ok : TI.ok Tryz.prog 16 ti16 := ⟨Tryz.underlying16, ⟨Tryz.t16, by kernel_rfl, by kernel_rfl, by kernel_rfl, fun _ => rfl⟩, rfl, bel_of rfl, one_of rfl⟩
noncomputable def ti17 : TI := ⟨Go.Proofs.Tryz.t17.desc, 1, 8, [.nilptr]⟩
theorem ti17_ok : TI.ok Tryz.prog 17 ti17 := ⟨Tryz.underlying17, ⟨Tryz.t17, by kernel_rfl, by kernel_rfl, by kernel_rfl, fun _ => rfl⟩, rfl, bel_of rfl, one_of rfl⟩
noncomputable def ti18 : TI := ⟨Go.Proofs.Tryz.t18.desc, 1, 8, [.nilptr]⟩
theorem ti18_ok : TI.ok Tryz.prog 18 ti18 := ⟨Tryz.underlying18, ⟨Tryz.t18, by kernel_rfl, by kernel_rfl, by kernel_rfl, fun _ => rfl⟩, rfl, bel_of rfl, one_of rfl⟩
noncomputable def ti19 : TI := ⟨Go.Proofs.Tryz.t18.desc, 1, 8, [.nilptr]⟩
theorem ti19_ok : TI.ok Tryz.prog 19 ti19 := ⟨Tryz.underlying19, ⟨Tryz.t19, by kernel_rfl, by kernel_rfl, by kernel_rfl, fun _ => rfl⟩, rfl, bel_of rfl, one_of rfl⟩
noncomputable def ti20 : TI := ⟨Go.Proofs.Tryz.t20.desc, 1, 16, [.nilif]⟩
theorem ti20_ok : TI.ok Tryz.prog 20 ti20 := ⟨Tryz.underlying20, ⟨Tryz.t20, by kernel_rfl, by kernel_rfl, by kernel_rfl, fun _ => rfl⟩, rfl, bel_of rfl, one_of rfl⟩
noncomputable def ti21 : TI := ⟨Go.Proofs.Tryz.t21.desc, 1, 4, [.int .i32 0]⟩
theorem ti21_ok : TI.ok Tryz.prog 21 ti21 := ⟨Tryz.underlying21, ⟨Tryz.t21, by kernel_rfl, by kernel_rfl, by kernel_rfl, fun _ => rfl⟩, rfl, bel_of rfl, one_of rfl⟩
noncomputable def ti22 : TI := ⟨Go.Proofs.Tryz.t22.desc, 1, 24, [.nilsl]⟩
theorem ti22_ok : TI.ok Tryz.prog 22 ti22 := ⟨Tryz.underlying22, ⟨Tryz.t22, by kernel_rfl, by kernel_rfl, by kernel_rfl, fun _ => rfl⟩, rfl, bel_of rfl, one_of rfl⟩
noncomputable def ti23 : TI := ⟨Go.Proofs.Tryz.t23.desc, 1, 24, [.nilsl]⟩
theorem ti23_ok : TI.ok Tryz.prog 23 ti23 := ⟨Tryz.underlying23, ⟨Tryz.t23, by kernel_rfl, by kernel_rfl, by kernel_rfl, fun _ => rfl⟩, rfl, bel_of rfl, one_of rfl⟩
noncomputable def ti24 : TI := ⟨Go.Proofs.Tryz.t24.desc, 1, 8, [.nilfn]⟩
theorem ti24_ok : TI.ok Tryz.prog 24 ti24 := ⟨Tryz.underlying24, ⟨Tryz.t24, by kernel_rfl, by kernel_rfl, by kernel_rfl, fun _ => rfl⟩, rfl, bel_of rfl, one_of rfl⟩
noncomputable def ti25 : TI := ⟨Go.Proofs.Tryz.t25.desc, 1, 8, [.nilfn]⟩
theorem ti25_ok : TI.ok Tryz.prog 25 ti25 := ⟨Tryz.underlying25, ⟨Tryz.t25, by kernel_rfl, by kernel_rfl, by kernel_rfl, fun _ => rfl⟩, rfl, bel_of rfl, one_of rfl⟩
noncomputable def ti26 : TI := ⟨Go.Proofs.Tryz.t26.desc, 1, 8, [.nilfn]⟩
theorem ti26_ok : TI.ok Tryz.prog 26 ti26 := ⟨Tryz.underlying26, ⟨Tryz.t26, by kernel_rfl, by kernel_rfl, by kernel_rfl, fun _ => rfl⟩, rfl, bel_of rfl, one_of rfl⟩
noncomputable def ti27 : TI := ⟨Go.Proofs.Tryz.t27.desc, 1, 8, [.nilfn]⟩
theorem ti27_ok : TI.ok Tryz.prog 27 ti27 := ⟨Tryz.underlying27, ⟨Tryz.t27, by kernel_rfl, by kernel_rfl, by kernel_rfl, fun _ => rfl⟩, rfl, bel_of rfl, one_of rfl⟩
noncomputable def ti28 : TI := ⟨Go.Proofs.Tryz.t28.desc, 1, 24, [.nilsl]⟩
theorem ti28_ok : TI.ok Tryz.prog 28 ti28 := ⟨Tryz.underlying28, ⟨Tryz.t28, by kernel_rfl, by kernel_rfl, by kernel_rfl, fun _ => rfl⟩, rfl, bel_of rfl, one_of rfl⟩
noncomputable def ti29 : TI := ⟨Go.Proofs.Tryz.t3.desc, 1, 8, [.int .i64 0]⟩
theorem ti29_ok : TI.ok Tryz.prog 29 ti29 := ⟨Tryz.underlying29, ⟨Tryz.t29, by kernel_rfl, by kernel_rfl, by kernel_rfl, fun _ => rfl⟩, rfl, bel_of rfl, one_of rfl⟩
noncomputable def ti31 : TI := ⟨Go.Proofs.Tryz.t31.desc, 1, 8, [.nilfn]⟩
theorem ti31_ok : TI.ok Tryz.prog 31 ti31 := ⟨Tryz.underlying31, ⟨Tryz.t31, by kernel_rfl, by kernel_rfl, by kernel_rfl, fun _ => rfl⟩, rfl, bel_of rfl, one_of rfl⟩
noncomputable def ti32 : TI := ⟨Go.Proofs.Tryz.t32.desc, 1, 8, [.nilfn]⟩
theorem ti32_ok : TI.ok Tryz.prog 32 ti32 := ⟨Tryz.underlying32, ⟨Tryz.t32, by kernel_rfl, by kernel_rfl, by kernel_rfl, fun _ => rfl⟩, rfl, bel_of rfl, one_of rfl⟩
noncomputable def ti33 : TI := ⟨Go.Proofs.Tryz.t33.desc, 1, 8, [.nilfn]⟩
theorem ti33_ok : TI.ok Tryz.prog 33 ti33 := ⟨Tryz.underlying33, ⟨Tryz.t33, by kernel_rfl, by kernel_rfl, by kernel_rfl, fun _ => rfl⟩, rfl, bel_of rfl, one_of rfl⟩
noncomputable def ti34 : TI := ⟨Go.Proofs.Tryz.t34.desc, 1, 8, [.nilfn]⟩
theorem ti34_ok : TI.ok Tryz.prog 34 ti34 := ⟨Tryz.underlying34, ⟨Tryz.t34, by kernel_rfl, by kernel_rfl, by kernel_rfl, fun _ => rfl⟩, rfl, bel_of rfl, one_of rfl⟩
noncomputable def ti35 : TI := ⟨Go.Proofs.Tryz.t35.desc, 1, 8, [.nilfn]⟩
theorem ti35_ok : TI.ok Tryz.prog 35 ti35 := ⟨Tryz.underlying35, ⟨Tryz.t35, by kernel_rfl, by kernel_rfl, by kernel_rfl, fun _ => rfl⟩, rfl, bel_of rfl, one_of rfl⟩
noncomputable def ti36 : TI := ⟨Go.Proofs.Tryz.t36.desc, 1, 8, [.nilfn]⟩
theorem ti36_ok : TI.ok Tryz.prog 36 ti36 := ⟨Tryz.underlying36, ⟨Tryz.t36, by kernel_rfl, by kernel_rfl, by kernel_rfl, fun _ => rfl⟩, rfl, bel_of rfl, one_of rfl⟩
noncomputable def ti37 : TI := ⟨Go.Proofs.Tryz.t37.desc, 1, 24, [.nilsl]⟩
theorem ti37_ok : TI.ok Tryz.prog 37 ti37 := ⟨Tryz.underlying37, ⟨Tryz.t37, by kernel_rfl, by kernel_rfl, by kernel_rfl, fun _ => rfl⟩, rfl, bel_of rfl, one_of rfl⟩
noncomputable def ti38 : TI := ⟨Go.Proofs.Tryz.t38.desc, 1, 8, [.nilfn]⟩
theorem ti38_ok : TI.ok Tryz.prog 38 ti38 := ⟨Tryz.underlying38, ⟨Tryz.t38, by kernel_rfl, by kernel_rfl, by kernel_rfl, fun _ => rfl⟩, rfl, bel_of rfl, one_of rfl⟩
noncomputable def ti39 : TI := ⟨Go.Proofs.Tryz.t39.desc, 1, 8, [.nilfn]⟩
theorem ti39_ok : TI.ok Tryz.prog 39 ti39 := ⟨Tryz.underlying39, ⟨Tryz.t39, by kernel_rfl, by kernel_rfl, by kernel_rfl, fun _ => rfl⟩, rfl, bel_of rfl, one_of rfl⟩
noncomputable def ti40 : TI := ⟨Go.Proofs.Tryz.t40.desc, 1, 24, [.nilsl]⟩
theorem ti40_ok : TI.ok Tryz.prog 40 ti40 := ⟨Tryz.underlying40, ⟨Tryz.t40, by kernel_rfl, by kernel_rfl, by kernel_rfl, fun _ => rfl⟩, rfl, bel_of rfl, one_of rfl⟩
noncomputable def ti41 : TI := ⟨Go.Proofs.Tryz.t41.desc, 1, 24, [.nilsl]⟩
theorem ti41_ok : TI.ok Tryz.prog 41 ti41 := ⟨Tryz.underlying41, ⟨Tryz.t41, by kernel_rfl, by kernel_rfl, by kernel_rfl, fun _ => rfl⟩, rfl, bel_of rfl, one_of rfl⟩
noncomputable def ti43 : TI := ⟨Go.Proofs.Tryz.t43.desc, 1, 8, [.nilfn]⟩
theorem ti43_ok : TI.ok Tryz.prog 43 ti43 := ⟨Tryz.underlying43, ⟨Tryz.t43, by kernel_rfl, by kernel_rfl, by kernel_rfl, fun _ => rfl⟩, rfl, bel_of rfl, one_of rfl⟩
noncomputable def ti44 : TI := ⟨Go.Proofs.Tryz.t44.desc, 1, 8, [.nilfn]⟩
theorem ti44_ok : TI.ok Tryz.prog 44 ti44 := ⟨Tryz.underlying44, ⟨Tryz.t44, by kernel_rfl, by kernel_rfl, by kernel_rfl, fun _ => rfl⟩, rfl, bel_of rfl, one_of rfl⟩
noncomputable def ti45 : TI := ⟨Go.Proofs.Tryz.t45.desc, 1, 8, [.nilfn]⟩
theorem ti45_ok : TI.ok Tryz.prog 45 ti45 := ⟨Tryz.underlying45, ⟨Tryz.t45, by kernel_rfl, by kernel_rfl, by kernel_rfl, fun _ => rfl⟩, rfl, bel_of rfl, one_of rfl⟩
noncomputable def ti46 : TI := ⟨Go.Proofs.Tryz.t46.desc, 1, 8, [.nilfn]⟩
theorem ti46_ok : TI.ok Tryz.prog 46 ti46 := ⟨Tryz.underlying46, ⟨Tryz.t46, by kernel_rfl, by kernel_rfl, by kernel_rfl, fun _ => rfl⟩, rfl, bel_of rfl, one_of rfl⟩
noncomputable def ti47 : TI := ⟨Go.Proofs.Tryz.t47.desc, 1, 8, [.nilfn]⟩
theorem ti47_ok : TI.ok Tryz.prog 47 ti47 := ⟨Tryz.underlying47, ⟨Tryz.t47, by kernel_rfl, by kernel_rfl, by kernel_rfl, fun _ => rfl⟩, rfl, bel_of rfl, one_of rfl⟩
noncomputable def ti48 : TI := ⟨Go.Proofs.Tryz.t48.desc, 1, 8, [.nilfn]⟩
theorem ti48_ok : TI.ok Tryz.prog 48 ti48 := ⟨Tryz.underlying48, ⟨Tryz.t48, by kernel_rfl, by kernel_rfl, by kernel_rfl, fun _ => rfl⟩, rfl, bel_of rfl, one_of rfl⟩
noncomputable def ti49 : TI := ⟨Go.Proofs.Tryz.t49.desc, 2, 16, [.int .i64 0, .int .i64 0]⟩
theorem ti49_ok : TI.ok Tryz.prog 49 ti49 := ⟨Tryz.underlying49, ⟨Tryz.t49, by kernel_rfl, by kernel_rfl, by kernel_rfl, fun _ => rfl⟩, rfl, bel_of rfl, one_of rfl⟩
noncomputable def ti50 : TI := ⟨Go.Proofs.Tryz.t49.desc, 2, 16, [.int .i64 0, .int .i64 0]⟩
theorem ti50_ok : TI.ok Tryz.prog 50 ti50 := ⟨Tryz.underlying50, ⟨Tryz.t50, by kernel_rfl, by kernel_rfl, by kernel_rfl, fun _ => rfl⟩, rfl, bel_of rfl, one_of rfl⟩
noncomputable def ti51 : TI := ⟨Go.Proofs.Tryz.t51.desc, 1, 8, [.nilfn]⟩
theorem ti51_ok : TI.ok Tryz.prog 51 ti51 := ⟨Tryz.underlying51, ⟨Tryz.t51, by kernel_rfl, by kernel_rfl, by kernel_rfl, fun _ => rfl⟩, rfl, bel_of rfl, one_of rfl⟩
noncomputable def ti53 : TI := ⟨Go.Proofs.Tryz.t53.desc, 1, 8, [.nilfn]⟩
theorem ti53_ok : TI.ok Tryz.prog 53 ti53 := ⟨Tryz.underlying53, ⟨Tryz.t53, by kernel_rfl, by kernel_rfl, by kernel_rfl, fun _ => rfl⟩, rfl, bel_of rfl, one_of rfl⟩
noncomputable def ti54 : TI := ⟨Go.Proofs.Tryz.t54.desc, 1, 8, [.nilfn]⟩
theorem ti54_ok : TI.ok Tryz.prog 54 ti54 := ⟨Tryz.underlying54, ⟨Tryz.t54, by kernel_rfl, by kernel_rfl, by kernel_rfl, fun _ => rfl⟩, rfl, bel_of rfl, one_of rfl⟩
noncomputable def ti55 : TI := ⟨Go.Proofs.Tryz.t55.desc, 1, 24, [.nilsl]⟩
theorem ti55_ok : TI.ok Tryz.prog 55 ti55 := ⟨Tryz.underlying55, ⟨Tryz.t55, by kernel_rfl, by kernel_rfl, by kernel_rfl, fun _ => rfl⟩, rfl, bel_of rfl, one_of rfl⟩
noncomputable def ti56 : TI := ⟨Go.Proofs.Tryz.t56.desc, 5, 64, [.lit false, .nilsl, .int .i64 0, .int .i64 0, .str []]⟩
theorem ti56_ok : TI.ok Tryz.prog 56 ti56 := ⟨Tryz.underlying56, ⟨Tryz.t56, by kernel_rfl, by kernel_rfl, by kernel_rfl, fun _ => rfl⟩, rfl, bel_of rfl, one_of rfl⟩
noncomputable def ti57 : TI := ⟨Go.Proofs.Tryz.t56.desc, 5, 64, [.lit false, .nilsl, .int .i64 0, .int .i64 0, .str []]⟩
theorem ti57_ok : TI.ok Tryz.prog 57 ti57 := ⟨Tryz.underlying57, ⟨Tryz.t57, by kernel_rfl, by kernel_rfl, by kernel_rfl, fun _ => rfl⟩, rfl, bel_of rfl, one_of rfl⟩
noncomputable def ti59 : TI := ⟨Go.Proofs.Tryz.t59.desc, 1, 8, [.nilfn]⟩
theorem ti59_ok : TI.ok Tryz.prog 59 ti59 := ⟨Tryz.underlying59, ⟨Tryz.t59, by kernel_rfl, by kernel_rfl, by kernel_rfl, fun _ => rfl⟩, rfl, bel_of rfl, one_of rfl⟩
noncomputable def ti60 : TI := ⟨Go.Proofs.Tryz.t60.desc, 1, 8, [.nilfn]⟩
theorem ti60_ok : TI.ok Tryz.prog 60 ti60 := ⟨Tryz.underlying60, ⟨Tryz.t60, by kernel_rfl, by kernel_rfl, by kernel_rfl, fun _ => rfl⟩, rfl, bel_of rfl, one_of rfl⟩
noncomputable def ti61 : TI := ⟨Go.Proofs.Tryz.t61.desc, 1, 8, [.nilfn]⟩
theorem ti61_ok : TI.ok Tryz.prog 61 ti61 := ⟨Tryz.underlying61, ⟨Tryz.t61, by kernel_rfl, by kernel_rfl, by kernel_rfl, fun _ => rfl⟩, rfl, bel_of rfl, one_of rfl⟩
noncomputable def ti62 : TI := ⟨Go.Proofs.Tryz.t62.desc, 1, 24, [.nilsl]⟩
theorem ti62_ok : TI.ok Tryz.prog 62 ti62 := ⟨Tryz.underlying62, ⟨Tryz.t62, by kernel_rfl, by kernel_rfl, by kernel_rfl, fun _ => rfl⟩, rfl, bel_of rfl, one_of rfl⟩
noncomputable def ti63 : TI := ⟨Go.Proofs.Tryz.t63.desc, 1, 24, [.nilsl]⟩
theorem ti63_ok : TI.ok Tryz.prog 63 ti63 := ⟨Tryz.underlying63, ⟨Tryz.t63, by kernel_rfl, by kernel_rfl, by kernel_rfl, fun _ => rfl⟩, rfl, bel_of rfl, one_of rfl⟩
noncomputable def ti64 : TI := ⟨Go.Proofs.Tryz.t64.desc, 4, 72, [.nilsl, .nilsl, .int .i64 0, .str []]⟩
theorem ti64_ok : TI.ok Tryz.prog 64 ti64 := ⟨Tryz.underlying64, ⟨Tryz.t64, by kernel_rfl, by kernel_rfl, by kernel_rfl, fun _ => rfl⟩, rfl, bel_of rfl, one_of rfl⟩
noncomputable def ti65 : TI := ⟨Go.Proofs.Tryz.t64.desc, 4, 72, [.nilsl, .nilsl, .int .i64 0, .str []]⟩
theorem ti65_ok : TI.ok Tryz.prog 65 ti65 := ⟨Tryz.underlying65, ⟨Tryz.t65, by kernel_rfl, by kernel_rfl, by kernel_rfl, fun _ => rfl⟩, rfl, bel_of rfl, one_of rfl⟩
noncomputable def ti67 : TI := ⟨Go.Proofs.Tryz.t67.desc, 1, 8, [.nilfn]⟩
theorem ti67_ok : TI.ok Tryz.prog 67 ti67 := ⟨Tryz.underlying67, ⟨Tryz.t67, by kernel_rfl, by kernel_rfl, by kernel_rfl, fun _ => rfl⟩, rfl, bel_of rfl, one_of rfl⟩
noncomputable def ti68 : TI := ⟨Go.Proofs.Tryz.t68.desc, 1, 8, [.nilfn]⟩
theorem ti68_ok : TI.ok Tryz.prog 68 ti68 := ⟨Tryz.underlying68, ⟨Tryz.t68, by kernel_rfl, by kernel_rfl, by kernel_rfl, fun _ => rfl⟩, rfl, bel_of rfl, one_of rfl⟩
noncomputable def ti69 : TI := ⟨Go.Proofs.Tryz.t69.desc, 1, 8, [.nilfn]⟩
theorem ti69_ok : TI.ok Tryz.prog 69 ti69 := ⟨Tryz.underlying69, ⟨Tryz.t69, by kernel_rfl, by kernel_rfl, by kernel_rfl, fun _ => rfl⟩, rfl, bel_of rfl, one_of rfl⟩
noncomputable def ti70 : TI := ⟨Go.Proofs.Tryz.t70.desc, 1, 8, [.nilfn]⟩
theorem ti70_ok : TI.ok Tryz.prog 70 ti70 := ⟨Tryz.underlying70, ⟨Tryz.t70, by kernel_rfl, by kernel_rfl, by kernel_rfl, fun _ => rfl⟩, rfl, bel_of rfl, one_of rfl⟩
noncomputable def ti71 : TI := ⟨Go.Proofs.Tryz.t71.desc, 1, 8, [.nilfn]⟩
theorem ti71_ok : TI.ok Tryz.prog 71 ti71 := ⟨Tryz.underlying71, ⟨Tryz.t71, by kernel_rfl, by kernel_rfl, by kernel_rfl, fun _ => rfl⟩, rfl, bel_of rfl, one_of rfl⟩
noncomputable def ti72 : TI := ⟨Go.Proofs.Tryz.t72.desc, 1, 8, [.nilfn]⟩
theorem ti72_ok : TI.ok Tryz.prog 72 ti72 := ⟨Tryz.underlying72, ⟨Tryz.t72, by kernel_rfl, by kernel_rfl, by kernel_rfl, fun _ => rfl⟩, rfl, bel_of rfl, one_of rfl⟩
noncomputable def ti74 : TI := ⟨Go.Proofs.Tryz.t74.desc, 1, 8, [.nilfn]⟩
theorem ti74_ok : TI.ok Tryz.prog 74 ti74 := ⟨Tryz.underlying74, ⟨Tryz.t74, by kernel_rfl, by kernel_rfl, by kernel_rfl, fun _ => rfl⟩, rfl, bel_of rfl, one_of rfl⟩
noncomputable def ti75 : TI := ⟨Go.Proofs.Tryz.t75.desc, 1, 8, [.nilfn]⟩
theorem ti75_ok : TI.ok Tryz.prog 75 ti75 := ⟨Tryz.underlying75, ⟨Tryz.t75, by kernel_rfl, by kernel_rfl, by kernel_rfl, fun _ => rfl⟩, rfl, bel_of rfl, one_of rfl⟩
noncomputable def ti76 : TI := ⟨Go.Proofs.Tryz.t76.desc, 1, 8, [.nilfn]⟩
theorem ti76_ok : TI.ok Tryz.prog 76 ti76 := ⟨Tryz.underlying76, ⟨Tryz.t76, by kernel_rfl, by kernel_rfl, by kernel_rfl, fun _ => rfl⟩, rfl, bel_of rfl, one_of rfl⟩
noncomputable def ti77 : TI := ⟨Go.Proofs.Tryz.t77.desc, 3, 40, [.nilsl, .nilfn, .nilfn]⟩
theorem ti77_ok : TI.ok Tryz.prog 77 ti77 := ⟨Tryz.underlying77, ⟨Tryz.t77, by kernel_rfl, by kernel_rfl, by kernel_rfl, fun _ => rfl⟩, rfl, bel_of rfl, one_of rfl⟩
noncomputable def ti78 : TI := ⟨Go.Proofs.Tryz.t77.desc, 3, 40, [.nilsl, .nilfn, .nilfn]⟩
theorem ti78_ok : TI.ok Tryz.prog 78 ti78 := ⟨Tryz.underlying78, ⟨Tryz.t78, by kernel_rfl, by kernel_rfl, by kernel_rfl, fun _ => rfl⟩, rfl, bel_of rfl, one_of rfl⟩
noncomputable def ti79 : TI := ⟨Go.Proofs.Tryz.t79.desc, 21, 280, [.nilsl, .nilfn, .nilfn, .nilsl, .nilfn, .nilfn, .nilsl, .nilfn, .nilfn, .nilsl, .nilfn, .nilfn, .nilsl, .nilfn, .nilfn, .nilsl, .nilfn, .nilfn, .nilsl, .nilfn, .nilfn]⟩
theorem ti79_ok : TI.ok Tryz.prog 79 ti79 := ⟨Tryz.underlying79, ⟨Tryz.t79, by kernel_rfl, by kernel_rfl, by kernel_rfl, fun _ => rfl⟩, rfl, bel_of rfl, one_of rfl⟩
noncomputable def ti80 : TI := ⟨Go.Proofs.Tryz.t80.desc, 1, 8, [.nilfn]⟩
theorem ti80_ok : TI.ok Tryz.prog 80 ti80 := ⟨Tryz.underlying80, ⟨Tryz.t80, by kernel_rfl, by kernel_rfl, by kernel_rfl, fun _ => rfl⟩, rfl, bel_of rfl, one_of rfl⟩
noncomputable def ti81 : TI := ⟨Go.Proofs.Tryz.t81.desc, 1, 8, [.nilfn]⟩
theorem ti81_ok : TI.ok Tryz.prog 81 ti81 := ⟨Tryz.underlying81, ⟨Tryz.t81, by kernel_rfl, by kernel_rfl, by kernel_rfl, fun _ => rfl⟩, rfl, bel_of rfl, one_of rfl⟩
noncomputable def ti82 : TI := ⟨Go.Proofs.Tryz.t82.desc, 1, 8, [.nilfn]⟩
theorem ti82_ok : TI.ok Tryz.prog 82 ti82 := ⟨Tryz.underlying82, ⟨Tryz.t82, by kernel_rfl, by kernel_rfl, by kernel_rfl, fun _ => rfl⟩, rfl, bel_of rfl, one_of rfl⟩
noncomputable def ti83 : TI := ⟨Go.Proofs.Tryz.t83.desc, 1, 8, [.nilfn]⟩
theorem ti83_ok : TI.ok Tryz.prog 83 ti83 := ⟨Tryz.underlying83, ⟨Tryz.t83, by kernel_rfl, by kernel_rfl, by kernel_rfl, fun _ => rfl⟩, rfl, bel_of rfl, one_of rfl⟩
noncomputable def ti84 : TI := ⟨Go.Proofs.Tryz.t84.desc, 1, 8, [.nilfn]⟩
theorem ti84_ok : TI.ok Tryz.prog 84 ti84 := ⟨Tryz.underlying84, ⟨Tryz.t84, by kernel_rfl, by kernel_rfl, by kernel_rfl, fun _ => rfl⟩, rfl, bel_of rfl, one_of rfl⟩
noncomputable def ti85 : TI := ⟨Go.Proofs.Tryz.t85.desc, 1, 8, [.nilfn]⟩
theorem ti85_ok : TI.ok Tryz.prog 85 ti85 := ⟨Tryz.underlying85, ⟨Tryz.t85, by kernel_rfl, by kernel_rfl, by kernel_rfl, fun _ => rfl⟩, rfl, bel_of rfl, one_of rfl⟩
noncomputable def ti86 : TI := ⟨Go.Proofs.Tryz.t86.desc, 4, 32, [.int .i64 0, .int .i64 0, .int .i64 0, .int .i64 0]⟩
theorem ti86_ok : TI.ok Tryz.prog 86 ti86 := ⟨Tryz.underlying86, ⟨Tryz.t86, by kernel_rfl, by kernel_rfl, by kernel_rfl, fun _ => rfl⟩, rfl, bel_of rfl, one_of rfl⟩
noncomputable def ti87 : TI := ⟨Go.Proofs.Tryz.t87.desc, 5, 48, [.str [], .int .i64 0, .int .i64 0, .int .i64 0, .int .i64 0]⟩
theorem ti87_ok : TI.ok Tryz.prog 87 ti87 := ⟨Tryz.underlying87, ⟨Tryz.t87, by kernel_rfl, by kernel_rfl, by kernel_rfl, fun _ => rfl⟩, rfl, bel_of rfl, one_of rfl⟩
noncomputable def ti88 : TI := ⟨Go.Proofs.Tryz.t87.desc, 5, 48, [.str [], .int .i64 0, .int .i64 0, .int .i64 0, .int .i64 0]⟩
theorem ti88_ok : TI.ok Tryz.prog 88 ti88 := ⟨Tryz.underlying88, ⟨Tryz.t88, by kernel_rfl, by kernel_rfl, by kernel_rfl, fun _ => rfl⟩, rfl, bel_of rfl, one_of rfl⟩
noncomputable def ti89 : TI := ⟨Go.Proofs.Tryz.t89.desc, 1, 8, [.nilfn]⟩
theorem ti89_ok : TI.ok Tryz.prog 89 ti89 := ⟨Tryz.underlying89, ⟨Tryz.t89, by kernel_rfl, by kernel_rfl, by kernel_rfl, fun _ => rfl⟩, rfl, bel_of rfl, one_of rfl⟩
noncomputable def ti90 : TI := ⟨Go.Proofs.Tryz.t90.desc, 1, 8, [.nilfn]⟩
theorem ti90_ok : TI.ok Tryz.prog 90 ti90 := ⟨Tryz.underlying90, ⟨Tryz.t90, by kernel_rfl, by kernel_rfl, by kernel_rfl, fun _ => rfl⟩, rfl, bel_of rfl, one_of rfl⟩
noncomputable def ti91 : TI := ⟨Go.Proofs.Tryz.t91.desc, 1, 8, [.nilptr]⟩
theorem ti91_ok : TI.ok Tryz.prog 91 ti91 := ⟨Tryz.underlying91, ⟨Tryz.t91, by kernel_rfl, by kernel_rfl, by kernel_rfl, fun _ => rfl⟩, rfl, bel_of rfl, one_of rfl⟩
noncomputable def ti92 : TI := ⟨Go.Proofs.Tryz.t92.desc, 1, 8, [.nilptr]⟩
theorem ti92_ok : TI.ok Tryz.prog 92 ti92 := ⟨Tryz.underlying92, ⟨Tryz.t92, by kernel_rfl, by kernel_rfl, by kernel_rfl, fun _ => rfl⟩, rfl, bel_of rfl, one_of rfl⟩
noncomputable def ti93 : TI := ⟨Go.Proofs.Tryz.t93.desc, 1, 8, [.nilfn]⟩
theorem ti93_ok : TI.ok Tryz.prog 93 ti93 := ⟨Tryz.underlying93, ⟨Tryz.t93, by kernel_rfl, by kernel_rfl, by kernel_rfl, fun _ => rfl⟩, rfl, bel_of rfl, one_of rfl⟩
noncomputable def ti94 : TI := ⟨Go.Proofs.Tryz.t94.desc, 1, 24, [.nilsl]⟩
theorem ti94_ok : TI.ok Tryz.prog 94 ti94 := ⟨Tryz.underlying94, ⟨Tryz.t94, by kernel_rfl, by kernel_rfl, by kernel_rfl, fun _ => rfl⟩, rfl, bel_of rfl, one_of rfl⟩
noncomputable def ti95 : TI := ⟨Go.Proofs.Tryz.t95.desc, 5, 64, [.lit false, .nilsl, .int .i64 0, .int .i64 0, .str []]⟩
theorem ti95_ok : TI.ok Tryz.prog 95 ti95 := ⟨Tryz.underlying95, ⟨Tryz.t95, by kernel_rfl, by kernel_rfl, by kernel_rfl, fun _ => rfl⟩, rfl, bel_of rfl, one_of rfl⟩
noncomputable def ti96 : TI := ⟨Go.Proofs.Tryz.t95.desc, 5, 64, [.lit false, .nilsl, .int .i64 0, .int .i64 0, .str []]⟩
theorem ti96_ok : TI.ok Tryz.prog 96 ti96 := ⟨Tryz.underlying96, ⟨Tryz.t96, by kernel_rfl, by kernel_rfl, by kernel_rfl, fun _ => rfl⟩, rfl, bel_of rfl, one_of rfl⟩
noncomputable def ti97 : TI := ⟨Go.Proofs.Tryz.t97.desc, 1, 8, [.nilfn]⟩
theorem ti97_ok : TI.ok Tryz.prog 97 ti97 := ⟨Tryz.underlying97, ⟨Tryz.t97, by kernel_rfl, by kernel_rfl, by kernel_rfl, fun _ => rfl⟩, rfl, bel_of rfl, one_of rfl⟩
noncomputable def ti98 : TI := ⟨Go.Proofs.Tryz.t98.desc, 1, 8, [.nilptr]⟩
theorem ti98_ok : TI.ok Tryz.prog 98 ti98 := ⟨Tryz.underlying98, ⟨Tryz.t98, by kernel_rfl, by kernel_rfl, by kernel_rfl, fun _ => rfl⟩, rfl, bel_of rfl, one_of rfl⟩
noncomputable def ti99 : TI := ⟨Go.Proofs.Tryz.t99.desc, 1, 8, [.nilfn]⟩
theorem ti99_ok : TI.ok Tryz.prog 99 ti99 := ⟨Tryz.underlying99, ⟨Tryz.t99, by kernel_rfl, by kernel_rfl, by kernel_rfl, fun _ => rfl⟩, rfl, bel_of rfl, one_of rfl⟩
noncomputable def ti100 : TI := ⟨Go.Proofs.Tryz.t100.desc, 1, 8, [.nilptr]⟩
theorem ti100_ok : TI.ok Tryz.prog 100 ti100 := ⟨Tryz.underlying100, ⟨Tryz.t100, by kernel_rfl, by kernel_rfl, by kernel_rfl, fun _ => rfl⟩, rfl, bel_of rfl, one_of rfl⟩
noncomputable def ti101 : TI := ⟨Go.Proofs.Tryz.t101.desc, 3, 32, [.str [], .int .i64 0, .lit false]⟩
theorem ti101_ok : TI.ok Tryz.prog 101 ti101 := ⟨Tryz.underlying101, ⟨Tryz.t101, by kernel_rfl, by kernel_rfl, by kernel_rfl, fun _ => rfl⟩, rfl, bel_of rfl, one_of rfl⟩
noncomputable def ti102 : TI := ⟨Go.Proofs.Tryz.t101.desc, 3, 32, [.str [], .int .i64 0, .lit false]⟩
theorem ti102_ok : TI.ok Tryz.prog 102 ti102 := ⟨Tryz.underlying102, ⟨Tryz.t102, by kernel_rfl, by kernel_rfl, by kernel_rfl, fun _ => rfl⟩, rfl, bel_of rfl, one_of rfl⟩
noncomputable def ti103 : TI := ⟨Go.Proofs.Tryz.t103.desc, 1, 8, [.nilfn]⟩
theorem ti103_ok : TI.ok Tryz.prog 103 ti103 := ⟨Tryz.underlying103, ⟨Tryz.t103, by kernel_rfl, by kernel_rfl, by kernel_rfl, fun _ => rfl⟩, rfl, bel_of rfl, one_of rfl⟩
noncomputable def ti104 : TI := ⟨Go.Proofs.Tryz.t104.desc, 1, 8, [.nilfn]⟩
theorem ti104_ok : TI.ok Tryz.prog 104 ti104 := ⟨Tryz.underlying104, ⟨Tryz.t104, by kernel_rfl, by kernel_rfl, by kernel_rfl, fun _ => rfl⟩, rfl, bel_of rfl, one_of rfl⟩
noncomputable def ti105 : TI := ⟨Go.Proofs.Tryz.t105.desc, 1, 8, [.nilfn]⟩
theorem ti105_ok : TI.ok Tryz.prog 105 ti105 := ⟨Tryz.underlying105, ⟨Tryz.t105, by kernel_rfl, by kernel_rfl, by kernel_rfl, fun _ => rfl⟩, rfl, bel_of rfl, one_of rfl⟩
noncomputable def ti106 : TI := ⟨Go.Proofs.Tryz.t106.desc, 1, 8, [.nilfn]⟩
theorem ti106_ok : TI.ok Tryz.prog 106 ti106 := ⟨Tryz.underlying106, ⟨Tryz.t106, by kernel_rfl, by kernel_rfl, by kernel_rfl, fun _ => rfl⟩, rfl, bel_of rfl, one_of rfl⟩
noncomputable def ti107 : TI := ⟨Go.Proofs.Tryz.t107.desc, 7, 168, [.nilsl, .nilsl, .nilsl, .nilsl, .nilsl, .nilsl, .nilsl]⟩
theorem ti107_ok : TI.ok Tryz.prog 107 ti107 := ⟨Tryz.underlying107, ⟨Tryz.t107, by kernel_rfl, by kernel_rfl, by kernel_rfl, fun _ => rfl⟩, rfl, bel_of rfl, one_of rfl⟩
noncomputable def ti108 : TI := ⟨Go.Proofs.Tryz.t108.desc, 1, 8, [.nilfn]⟩
theorem ti108_ok : TI.ok Tryz.prog 108 ti108 := ⟨Tryz.underlying108, ⟨Tryz.t108, by kernel_rfl, by kernel_rfl, by kernel_rfl, fun _ => rfl⟩, rfl, bel_of rfl, one_of rfl⟩
noncomputable def ti109 : TI := ⟨Go.Proofs.Tryz.t109.desc, 1, 8, [.nilfn]⟩
theorem ti109_ok : TI.ok Tryz.prog 109 ti109 := ⟨Tryz.underlying109, ⟨Tryz.t109, by kernel_rfl, by kernel_rfl, by kernel_rfl, fun _ => rfl⟩, rfl, bel_of rfl, one_of rfl⟩
noncomputable def ti110 : TI := ⟨Go.Proofs.Tryz.t110.desc, 1, 8, [.nilfn]⟩
theorem ti110_ok : TI.ok Tryz.prog 110 ti110 := ⟨Tryz.underlying110, ⟨Tryz.t110, by kernel_rfl, by kernel_rfl, by kernel_rfl, fun _ => rfl⟩, rfl, bel_of rfl, one_of rfl⟩
noncomputable def ti111 : TI := ⟨Go.Proofs.Tryz.t111.desc, 1, 8, [.nilfn]⟩
theorem ti111_ok : TI.ok Tryz.prog 111 ti111 := ⟨Tryz.underlying111, ⟨Tryz.t111, by kernel_rfl, by kernel_rfl, by kernel_rfl, fun _ => rfl⟩, rfl, bel_of rfl, one_of rfl⟩
noncomputable def ti112 : TI := ⟨Go.Proofs.Tryz.t112.desc, 1, 8, [.nilptr]⟩
theorem ti112_ok : TI.ok Tryz.prog 112 ti112 := ⟨Tryz.underlying112, ⟨Tryz.t112, by kernel_rfl, by kernel_rfl, by kernel_rfl, fun _ => rfl⟩, rfl, bel_of rfl, one_of rfl⟩
noncomputable def ti113 : TI := ⟨Go.Proofs.Tryz.t113.desc, 1, 8, [.nilfn]⟩
theorem ti113_ok : TI.ok Tryz.prog 113 ti113 := ⟨Tryz.underlying113, ⟨Tryz.t113, by kernel_rfl, by kernel_rfl, by kernel_rfl, fun _ => rfl⟩, rfl, bel_of rfl, one_of rfl⟩
noncomputable def ti114 : TI := ⟨Go.Proofs.Tryz.t114.desc, 1, 8, [.nilfn]⟩
theorem ti114_ok : TI.ok Tryz.prog 114 ti114 := ⟨Tryz.underlying114, ⟨Tryz.t114, by kernel_rfl, by kernel_rfl, by kernel_rfl, fun _ => rfl⟩, rfl, bel_of rfl, one_of rfl⟩
noncomputable def ti115 : TI := ⟨Go.Proofs.Tryz.t115.desc, 1, 8, [.nilptr]⟩
theorem ti115_ok : TI.ok Tryz.prog 115 ti115 := ⟨Tryz.underlying115, ⟨Tryz.t115, by kernel_rfl, by kernel_rfl, by kernel_rfl, fun _ => rfl⟩, rfl, bel_of rfl, one_of rfl⟩
noncomputable def ti116 : TI := ⟨Go.Proofs.Tryz.t116.desc, 2, 24, [.str [], .int .i64 0]⟩
theorem ti116_ok : TI.ok Tryz.prog 116 ti116 := ⟨Tryz.underlying116, ⟨Tryz.t116, by kernel_rfl, by kernel_rfl, by kernel_rfl, fun _ => rfl⟩, rfl, bel_of rfl, one_of rfl⟩
noncomputable def ti117 : TI := ⟨Go.Proofs.Tryz.t116.desc, 2, 24, [.str [], .int .i64 0]⟩
theorem ti117_ok : TI.ok Tryz.prog 117 ti117 := ⟨Tryz.underlying117, ⟨Tryz.t117, by kernel_rfl, by kernel_rfl, by kernel_rfl, fun _ => rfl⟩, rfl, bel_of rfl, one_of rfl⟩
noncomputable def ti118 : TI := ⟨Go.Proofs.Tryz.t118.desc, 1, 8, [.nilfn]⟩
theorem ti118_ok : TI.ok Tryz.prog 118 ti118 := ⟨Tryz.underlying118, ⟨Tryz.t118, by kernel_rfl, by kernel_rfl, by kernel_rfl, fun _ => rfl⟩, rfl, bel_of rfl, one_of rfl⟩
noncomputable def ti119 : TI := ⟨Go.Proofs.Tryz.t119.desc, 2, 40, [.str [], .nilsl]⟩
theorem ti119_ok : TI.ok Tryz.prog 119 ti119 := ⟨Tryz.underlying119, ⟨Tryz.t119, by kernel_rfl, by kernel_rfl, by kernel_rfl, fun _ => rfl⟩, rfl, bel_of rfl, one_of rfl⟩
noncomputable def ti120 : TI := ⟨Go.Proofs.Tryz.t119.desc, 2, 40, [.str [], .nilsl]⟩
theorem ti120_ok : TI.ok Tryz.prog 120 ti120 := ⟨Tryz.underlying120, ⟨Tryz.t120, by kernel_rfl, by kernel_rfl, by kernel_rfl, fun _ => rfl⟩, rfl, bel_of rfl, one_of rfl⟩
noncomputable def ti121 : TI := ⟨Go.Proofs.Tryz.t121.desc, 1, 8, [.nilfn]⟩
theorem ti121_ok : TI.ok Tryz.prog 121 ti121 := ⟨Tryz.underlying121, ⟨Tryz.t121, by kernel_rfl, by kernel_rfl, by kernel_rfl, fun _ => rfl⟩, rfl, bel_of rfl, one_of rfl⟩
noncomputable def ti122 : TI := ⟨Go.Proofs.Tryz.t122.desc, 1, 8, [.nilfn]⟩
theorem ti122_ok : TI.ok Tryz.prog 122 ti122 := ⟨Tryz.underlying122, ⟨Tryz.t122, by kernel_rfl, by kernel_rfl, by kernel_rfl, fun _ => rfl⟩, rfl, bel_of rfl, one_of rfl⟩
noncomputable def ti123 : TI := ⟨Go.Proofs.Tryz.t123.desc, 1, 8, [.nilfn]⟩
theorem ti123_ok : TI.ok Tryz.prog 123 ti123 := ⟨Tryz.underlying123, ⟨Tryz.t123, by kernel_rfl, by kernel_rfl, by kernel_rfl, fun _ => rfl⟩, rfl, bel_of rfl, one_of rfl⟩
noncomputable def ti124 : TI := ⟨Go.Proofs.Tryz.t124.desc, 1, 8, [.nilfn]⟩
theorem ti124_ok : TI.ok Tryz.prog 124 ti124 := ⟨Tryz.underlying124, ⟨Tryz.t124, by kernel_rfl, by kernel_rfl, by kernel_rfl, fun _ => rfl⟩, rfl, bel_of rfl, one_of rfl⟩
noncomputable def ti125 : TI := ⟨Go.Proofs.Tryz.t125.desc, 1, 8, [.nilfn]⟩
theorem ti125_ok : TI.ok Tryz.prog 125 ti125 := ⟨Tryz.underlying125, ⟨Tryz.t125, by kernel_rfl, by kernel_rfl, by kernel_rfl, fun _ => rfl⟩, rfl, bel_of rfl, one_of rfl⟩
noncomputable def ti127 : TI := ⟨Go.Proofs.Tryz.t127.desc, 1, 8, [.nilfn]⟩
theorem ti127_ok : TI.ok Tryz.prog 127 ti127 := ⟨Tryz.underlying127, ⟨Tryz.t127, by kernel_rfl, by kernel_rfl, by kernel_rfl, fun _ => rfl⟩, rfl, bel_of rfl, one_of rfl⟩
noncomputable def ti129 : TI := ⟨Go.Proofs.Tryz.t129.desc, 1, 8, [.nilfn]⟩
theorem ti129_ok : TI.ok Tryz.prog 129 ti129 := ⟨Tryz.underlying129, ⟨Tryz.t129, by kernel_rfl, by kernel_rfl, by kernel_rfl, fun _ => rfl⟩, rfl, bel_of rfl, one_of rfl⟩
noncomputable def ti130 : TI := ⟨Go.Proofs.Tryz.t130.desc, 1, 8, [.int .u64 0]⟩
theorem ti130_ok : TI.ok Tryz.prog 130 ti130 := ⟨Tryz.underlying130, ⟨Tryz.t130, by kernel_rfl, by kernel_rfl, by kernel_rfl, fun _ => rfl⟩, rfl, bel_of rfl, one_of rfl⟩
noncomputable def ti131 : TI := ⟨Go.Proofs.Tryz.t131.desc, 1, 8, [.nilfn]⟩
theorem ti131_ok : TI.ok Tryz.prog 131 ti131 := ⟨Tryz.underlying131, ⟨Tryz.t131, by kernel_rfl, by kernel_rfl, by kernel_rfl, fun _ => rfl⟩, rfl, bel_of rfl, one_of rfl⟩
noncomputable def ti132 : TI := ⟨Go.Proofs.Tryz.t132.desc, 1, 8, [.nilfn]⟩
theorem ti132_ok : TI.ok Tryz.prog 132 ti132 := ⟨Tryz.underlying132, ⟨Tryz.t132, by kernel_rfl, by kernel_rfl, by kernel_rfl, fun _ => rfl⟩, rfl, bel_of rfl, one_of rfl⟩
noncomputable def ti134 : TI := ⟨Go.Proofs.Tryz.t134.desc, 1, 8, [.nilmap]⟩
theorem ti134_ok : TI.ok Tryz.prog 134 ti134 := ⟨Tryz.underlying134, ⟨Tryz.t134, by kernel_rfl, by kernel_rfl, by kernel_rfl, fun _ => rfl⟩, rfl, bel_of rfl, one_of rfl⟩
noncomputable def ti135 : TI := ⟨Go.Proofs.Tryz.t135.desc, 1, 8, [.nilfn]⟩
theorem ti135_ok : TI.ok Tryz.prog 135 ti135 := ⟨Tryz.underlying135, ⟨Tryz.t135, by kernel_rfl, by kernel_rfl, by kernel_rfl, fun _ => rfl⟩, rfl, bel_of rfl, one_of rfl⟩
noncomputable def ti136 : TI := ⟨Go.Proofs.Tryz.t136.desc, 1, 8, [.nilfn]⟩
theorem ti136_ok : TI.ok Tryz.prog 136 ti136 := ⟨Tryz.underlying136, ⟨Tryz.t136, by kernel_rfl, by kernel_rfl, by kernel_rfl, fun _ => rfl⟩, rfl, bel_of rfl, one_of rfl⟩
noncomputable def ti137 : TI := ⟨Go.Proofs.Tryz.t137.desc, 1, 8, [.nilptr]⟩
theorem ti137_ok : TI.ok Tryz.prog 137 ti137 := ⟨Tryz.underlying137, ⟨Tryz.t137, by kernel_rfl, by kernel_rfl, by kernel_rfl, fun _ => rfl⟩, rfl, bel_of rfl, one_of rfl⟩
noncomputable def ti138 : TI := ⟨Go.Proofs.Tryz.t138.desc, 1, 8, [.nilptr]⟩
theorem ti138_ok : TI.ok Tryz.prog 138 ti138 := ⟨Tryz.underlying138, ⟨Tryz.t138, by kernel_rfl, by kernel_rfl, by kernel_rfl, fun _ => rfl⟩, rfl, bel_of rfl, one_of rfl⟩
noncomputable def ti139 : TI := ⟨Go.Proofs.Tryz.t139.desc, 2, 32, [.nilptr, .nilsl]⟩
theorem ti139_ok : TI.ok Tryz.prog 139 ti139 := ⟨Tryz.underlying139, ⟨Tryz.t139, by kernel_rfl, by kernel_rfl, by kernel_rfl, fun _ => rfl⟩, rfl, bel_of rfl, one_of rfl⟩
noncomputable def ti140 : TI := ⟨Go.Proofs.Tryz.t139.desc, 2, 32, [.nilptr, .nilsl]⟩
theorem ti140_ok : TI.ok Tryz.prog 140 ti140 := ⟨Tryz.underlying140, ⟨Tryz.t140, by kernel_rfl, by kernel_rfl, by kernel_rfl, fun _ => rfl⟩, rfl, bel_of rfl, one_of rfl⟩
noncomputable def ti141 : TI := ⟨Go.Proofs.Tryz.t141.desc, 2, 32, [.nilptr, .nilsl]⟩
theorem ti141_ok : TI.ok Tryz.prog 141 ti141 := ⟨Tryz.underlying141, ⟨Tryz.t141, by kernel_rfl, by kernel_rfl, by kernel_rfl, fun _ => rfl⟩, rfl, bel_of rfl, one_of rfl⟩
noncomputable def ti142 : TI := ⟨Go.Proofs.Tryz.t141.desc, 2, 32, [.nilptr, .nilsl]⟩
theorem ti142_ok : TI.ok Tryz.prog 142 ti142 := ⟨Tryz.underlying142, ⟨Tryz.t142, by kernel_rfl, by kernel_rfl, by kernel_rfl, fun _ => rfl⟩, rfl, bel_of rfl, one_of rfl⟩
noncomputable def ti143 : TI := ⟨Go.Proofs.Tryz.t143.desc, 4, 72, [.nilsl, .nilsl, .int .i64 0, .str []]⟩
theorem ti143_ok : TI.ok Tryz.prog 143 ti143 := ⟨Tryz.underlying143, ⟨Tryz.t143, by kernel_rfl, by kernel_rfl, by kernel_rfl, fun _ => rfl⟩, rfl, bel_of rfl, one_of rfl⟩
noncomputable def ti144 : TI := ⟨Go.Proofs.Tryz.t143.desc, 4, 72, [.nilsl, .nilsl, .int .i64 0, .str []]⟩
theorem ti144_ok : TI.ok Tryz.prog 144 ti144 := ⟨Tryz.underlying144, ⟨Tryz.t144, by kernel_rfl, by kernel_rfl, by kernel_rfl, fun _ => rfl⟩, rfl, bel_of rfl, one_of rfl⟩
noncomputable def ti145 : TI := ⟨Go.Proofs.Tryz.t145.desc, 1, 8, [.nilfn]⟩
theorem ti145_ok : TI.ok Tryz.prog 145 ti145 := ⟨Tryz.underlying145, ⟨Tryz.t145, by kernel_rfl, by kernel_rfl, by kernel_rfl, fun _ => rfl⟩, rfl, bel_of rfl, one_of rfl⟩
noncomputable def ti146 : TI := ⟨Go.Proofs.Tryz.t146.desc, 1, 8, [.nilfn]⟩
theorem ti146_ok : TI.ok Tryz.prog 146 ti146 := ⟨Tryz.underlying146, ⟨Tryz.t146, by kernel_rfl, by kernel_rfl, by kernel_rfl, fun _ => rfl⟩, rfl, bel_of rfl, one_of rfl⟩
noncomputable def ti147 : TI := ⟨Go.Proofs.Tryz.t147.desc, 1, 8, [.nilfn]⟩
theorem ti147_ok : TI.ok Tryz.prog 147 ti147 := ⟨Tryz.underlying147, ⟨Tryz.t147, by kernel_rfl, by kernel_rfl, by kernel_rfl, fun _ => rfl⟩, rfl, bel_of rfl, one_of rfl⟩
noncomputable def ti148 : TI := ⟨Go.Proofs.Tryz.t148.desc, 1, 8, [.nilfn]⟩
theorem ti148_ok : TI.ok Tryz.prog 148 ti148 := ⟨Tryz.underlying148, ⟨Tryz.t148, by kernel_rfl, by kernel_rfl, by kernel_rfl, fun _ => rfl⟩, rfl, bel_of rfl, one_of rfl⟩
noncomputable def ti149 : TI := ⟨Go.Proofs.Tryz.t149.desc, 1, 8, [.nilfn]⟩
theorem ti149_ok : TI.ok Tryz.prog 149 ti149 := ⟨Tryz.underlying149, ⟨Tryz.t149, by kernel_rfl, by kernel_rfl, by kernel_rfl, fun _ => rfl⟩, rfl, bel_of rfl, one_of rfl⟩
noncomputable def ti153 : TI := ⟨Go.Proofs.Tryz.t153.desc, 1, 8, [.nilfn]⟩
theorem ti153_ok : TI.ok Tryz.prog 153 ti153 := ⟨Tryz.underlying153, ⟨Tryz.t153, by kernel_rfl, by kernel_rfl, by kernel_rfl, fun _ => rfl⟩, rfl, bel_of rfl, one_of rfl⟩
noncomputable def ti154 : TI := ⟨Go.Proofs.Tryz.t154.desc, 1, 8, [.nilfn]⟩
theorem ti154_ok : TI.ok Tryz.prog 154 ti154 := ⟨Tryz.underlying154, ⟨Tryz.t154, by kernel_rfl, by kernel_rfl, by kernel_rfl, fun _ => rfl⟩, rfl, bel_of rfl, one_of rfl⟩
noncomputable def ti155 : TI := ⟨Go.Proofs.Tryz.t155.desc, 1, 8, [.nilptr]⟩
theorem ti155_ok : TI.ok Tryz.prog 155 ti155 := ⟨Tryz.underlying155, ⟨Tryz.t155, by kernel_rfl, by kernel_rfl, by kernel_rfl, fun _ => rfl⟩, rfl, bel_of rfl, one_of rfl⟩
noncomputable def ti156 : TI := ⟨Go.Proofs.Tryz.t156.desc, 1, 8, [.nilfn]⟩
theorem ti156_ok : TI.ok Tryz.prog 156 ti156 := ⟨Tryz.underlying156, ⟨Tryz.t156, by kernel_rfl, by kernel_rfl, by kernel_rfl, fun _ => rfl⟩, rfl, bel_of rfl, one_of rfl⟩
noncomputable def ti157 : TI := ⟨Go.Proofs.Tryz.t157.desc, 1, 8, [.nilfn]⟩
theorem ti157_ok : TI.ok Tryz.prog 157 ti157 := ⟨Tryz.underlying157, ⟨Tryz.t157, by kernel_rfl, by kernel_rfl, by kernel_rfl, fun _ => rfl⟩, rfl, bel_of rfl, one_of rfl⟩
noncomputable def ti159 : TI := ⟨Go.Proofs.Tryz.t159.desc, 1, 8, [.nilfn]⟩
theorem ti159_ok : TI.ok Tryz.prog 159 ti159 := ⟨Tryz.underlying159, ⟨Tryz.t159, by kernel_rfl, by kernel_rfl, by kernel_rfl, fun _ => rfl⟩, rfl, bel_of rfl, one_of rfl⟩
noncomputable def ti160 : TI := ⟨Go.Proofs.Tryz.t160.desc, 1, 8, [.nilfn]⟩
theorem ti160_ok : TI.ok Tryz.prog 160 ti160 := ⟨Tryz.underlying160, ⟨Tryz.t160, by kernel_rfl, by kernel_rfl, by kernel_rfl, fun _ => rfl⟩, rfl, bel_of rfl, one_of rfl⟩
noncomputable def ti161 : TI := ⟨Go.Proofs.Tryz.t161.desc, 1, 8, [.nilfn]⟩
theorem ti161_ok : TI.ok Tryz.prog 161 ti161 := ⟨Tryz.underlying161, ⟨Tryz.t161, by kernel_rfl, by kernel_rfl, by kernel_rfl, fun _ => rfl⟩, rfl, bel_of rfl, one_of rfl⟩
noncomputable def ti162 : TI := ⟨Go.Proofs.Tryz.t161.desc, 1, 8, [.nilfn]⟩
theorem ti162_ok : TI.ok Tryz.prog 162 ti162 := ⟨Tryz.underlying162, ⟨Tryz.t162, by kernel_rfl, by kernel_rfl, by kernel_rfl, fun _ => rfl⟩, rfl, bel_of rfl, one_of rfl⟩
noncomputable def ti163 : TI := ⟨Go.Proofs.Tryz.t163.desc, 1, 8, [.nilfn]⟩
theorem ti163_ok : TI.ok Tryz.prog 163 ti163 := ⟨Tryz.underlying163, ⟨Tryz.t163, by kernel_rfl, by kernel_rfl, by kernel_rfl, fun _ => rfl⟩, rfl, bel_of rfl, one_of rfl⟩
noncomputable def ti164 : TI := ⟨Go.Proofs.Tryz.t164.desc, 1, 8, [.int .u64 0]⟩
theorem ti164_ok : TI.ok Tryz.prog 164 ti164 := ⟨Tryz.underlying164, ⟨Tryz.t164, by kernel_rfl, by kernel_rfl, by kernel_rfl, fun _ => rfl⟩, rfl, bel_of rfl, one_of rfl⟩
noncomputable def ti165 : TI := ⟨Go.Proofs.Tryz.t165.desc, 2, 16, [.int .i64 0, .int .i64 0]⟩
theorem ti165_ok : TI.ok Tryz.prog 165 ti165 := ⟨Tryz.underlying165, ⟨Tryz.t165, by kernel_rfl, by kernel_rfl, by kernel_rfl, fun _ => rfl⟩, rfl, bel_of rfl, one_of rfl⟩
noncomputable def ti166 : TI := ⟨Go.Proofs.Tryz.t166.desc, 1, 24, [.nilsl]⟩
theorem ti166_ok : TI.ok Tryz.prog 166 ti166 := ⟨Tryz.underlying166, ⟨Tryz.t166, by kernel_rfl, by kernel_rfl, by kernel_rfl, fun _ => rfl⟩, rfl, bel_of rfl, one_of rfl⟩
noncomputable def ti167 : TI := ⟨Go.Proofs.Tryz.t167.desc, 2, 24, [.str [], .int .i64 0]⟩
theorem ti167_ok : TI.ok Tryz.prog 167 ti167 := ⟨Tryz.underlying167, ⟨Tryz.t167, by kernel_rfl, by kernel_rfl, by kernel_rfl, fun _ => rfl⟩, rfl, bel_of rfl, one_of rfl⟩
noncomputable def ti168 : TI := ⟨Go.Proofs.Tryz.t167.desc, 2, 24, [.str [], .int .i64 0]⟩
theorem ti168_ok : TI.ok Tryz.prog 168 ti168 := ⟨Tryz.underlying168, ⟨Tryz.t168, by kernel_rfl, by kernel_rfl, by kernel_rfl, fun _ => rfl⟩, rfl, bel_of rfl, one_of rfl⟩
noncomputable def ti169 : TI := ⟨Go.Proofs.Tryz.t169.desc, 1, 8, [.nilfn]⟩
theorem ti169_ok : TI.ok Tryz.prog 169 ti169 := ⟨Tryz.underlying169, ⟨Tryz.t169, by kernel_rfl, by kernel_rfl, by kernel_rfl, fun _ => rfl⟩, rfl, bel_of rfl, one_of rfl⟩
noncomputable def ti170 : TI := ⟨Go.Proofs.Tryz.t170.desc, 1, 8, [.nilfn]⟩
theorem ti170_ok : TI.ok Tryz.prog 170 ti170 := ⟨Tryz.underlying170, ⟨Tryz.t170, by kernel_rfl, by kernel_rfl, by kernel_rfl, fun _ => rfl⟩, rfl, bel_of rfl, one_of rfl⟩
noncomputable def ti171 : TI := ⟨Go.Proofs.Tryz.t171.desc, 6, 48, [.int .i64 0, .int .i64 0, .lit false, .int .i64 0, .int .i64 0, .int .i64 0]⟩
theorem ti171_ok : TI.ok Tryz.prog 171 ti171 := ⟨Tryz.underlying171, ⟨Tryz.t171, by kernel_rfl, by kernel_rfl, by kernel_rfl, fun _ => rfl⟩, rfl, bel_of rfl, one_of rfl⟩
noncomputable def ti172 : TI := ⟨Go.Proofs.Tryz.t171.desc, 6, 48, [.int .i64 0, .int .i64 0, .lit false, .int .i64 0, .int .i64 0, .int .i64 0]⟩
theorem ti172_ok : TI.ok Tryz.prog 172 ti172 := ⟨Tryz.underlying172, ⟨Tryz.t172, by kernel_rfl, by kernel_rfl, by kernel_rfl, fun _ => rfl⟩, rfl, bel_of rfl, one_of rfl⟩
noncomputable def ti173 : TI := ⟨Go.Proofs.Tryz.t173.desc, 1, 8, [.nilfn]⟩
theorem ti173_ok : TI.ok Tryz.prog 173 ti173 := ⟨Tryz.underlying173, ⟨Tryz.t173, by kernel_rfl, by kernel_rfl, by kernel_rfl, fun _ => rfl⟩, rfl, bel_of rfl, one_of rfl⟩
noncomputable def ti174 : TI := ⟨Go.Proofs.Tryz.t174.desc, 1, 8, [.nilfn]⟩
theorem ti174_ok : TI.ok Tryz.prog 174 ti174 := ⟨Tryz.underlying174, ⟨Tryz.t174, by kernel_rfl, by kernel_rfl, by kernel_rfl, fun _ => rfl⟩, rfl, bel_of rfl, one_of rfl⟩
noncomputable def ti175 : TI := ⟨Go.Proofs.Tryz.t175.desc, 1, 8, [.nilfn]⟩
theorem ti175_ok : TI.ok Tryz.prog 175 ti175 := ⟨Tryz.underlying175, ⟨Tryz.t175, by kernel_rfl, by kernel_rfl, by kernel_rfl, fun _ => rfl⟩, rfl, bel_of rfl, one_of rfl⟩
noncomputable def ti176 : TI := ⟨Go.Proofs.Tryz.t176.desc, 1, 8, [.nilfn]⟩
theorem ti176_ok : TI.ok Tryz.prog 176 ti176 := ⟨Tryz.underlying176, ⟨Tryz.t176, by kernel_rfl, by kernel_rfl, by kernel_rfl, fun _ => rfl⟩, rfl, bel_of rfl, one_of rfl⟩
noncomputable def ti177 : TI := ⟨Go.Proofs.Tryz.t177.desc, 1, 8, [.nilptr]⟩
theorem ti177_ok : TI.ok Tryz.prog 177 ti177 := ⟨Tryz.underlying177, ⟨Tryz.t177, by kernel_rfl, by kernel_rfl, by kernel_rfl, fun _ => rfl⟩, rfl, bel_of rfl, one_of rfl⟩
noncomputable def ti178 : TI := ⟨Go.Proofs.Tryz.t178.desc, 1, 16, [.nilif]⟩
theorem ti178_ok : TI.ok Tryz.prog 178 ti178 := ⟨Tryz.underlying178, ⟨Tryz.t178, by kernel_rfl, by kernel_rfl, by kernel_rfl, fun _ => rfl⟩, rfl, bel_of rfl, one_of rfl⟩
noncomputable def ti179 : TI := ⟨Go.Proofs.Tryz.t178.desc, 1, 16, [.nilif]⟩
theorem ti179_ok : TI.ok Tryz.prog 179 ti179 := ⟨Tryz.underlying179, ⟨Tryz.t179, by kernel_rfl, by kernel_rfl, by kernel_rfl, fun _ => rfl⟩, rfl, bel_of rfl, one_of rfl⟩
noncomputable def ti181 : TI := ⟨Go.Proofs.Tryz.t181.desc, 1, 8, [.nilfn]⟩
theorem ti181_ok : TI.ok Tryz.prog 181 ti181 := ⟨Tryz.underlying181, ⟨Tryz.t181, by kernel_rfl, by kernel_rfl, by kernel_rfl, fun _ => rfl⟩, rfl, bel_of rfl, one_of rfl⟩
noncomputable def ti182 : TI := ⟨Go.Proofs.Tryz.t182.desc, 1, 8, [.nilfn]⟩
theorem ti182_ok : TI.ok Tryz.prog 182 ti182 := ⟨Tryz.underlying182, ⟨Tryz.t182, by kernel_rfl, by kernel_rfl, by kernel_rfl, fun _ => rfl⟩, rfl, bel_of rfl, one_of rfl⟩
noncomputable def ti183 : TI := ⟨Go.Proofs.Tryz.t183.desc, 1, 8, [.nilfn]⟩
theorem ti183_ok : TI.ok Tryz.prog 183 ti183 := ⟨Tryz.underlying183, ⟨Tryz.t183, by kernel_rfl, by kernel_rfl, by kernel_rfl, fun _ => rfl⟩, rfl, bel_of rfl, one_of rfl⟩
noncomputable def ti184 : TI := ⟨Go.Proofs.Tryz.t184.desc, 1, 8, [.nilfn]⟩
theorem ti184_ok : TI.ok Tryz.prog 184 ti184 := ⟨Tryz.underlying184, ⟨Tryz.t184, by kernel_rfl, by kernel_rfl, by kernel_rfl, fun _ => rfl⟩, rfl, bel_of rfl, one_of rfl⟩
noncomputable def ti185 : TI := ⟨Go.Proofs.Tryz.t185.desc, 1, 8, [.nilfn]⟩
theorem ti185_ok : TI.ok Tryz.prog 185 ti185 := ⟨Tryz.underlying185, ⟨Tryz.t185, by kernel_rfl, by kernel_rfl, by kernel_rfl, fun _ => rfl⟩, rfl, bel_of rfl, one_of rfl⟩
noncomputable def ti186 : TI := ⟨Go.Proofs.Tryz.t186.desc, 1, 8, [.nilfn]⟩
theorem ti186_ok : TI.ok Tryz.prog 186 ti186 := ⟨Tryz.underlying186, ⟨Tryz.t186, by kernel_rfl, by kernel_rfl, by kernel_rfl, fun _ => rfl⟩, rfl, bel_of rfl, one_of rfl⟩
noncomputable def ti188 : TI := ⟨Go.Proofs.Tryz.t188.desc, 1, 8, [.nilfn]⟩
theorem ti188_ok : TI.ok Tryz.prog 188 ti188 := ⟨Tryz.underlying188, ⟨Tryz.t188, by kernel_rfl, by kernel_rfl, by kernel_rfl, fun _ => rfl⟩, rfl, bel_of rfl, one_of rfl⟩
noncomputable def ti189 : TI := ⟨Go.Proofs.Tryz.t189.desc, 1, 8, [.nilfn]⟩
theorem ti189_ok : TI.ok Tryz.prog 189 ti189 := ⟨Tryz.underlying189, ⟨Tryz.t189, by kernel_rfl, by kernel_rfl, by kernel_rfl, fun _ => rfl⟩, rfl, bel_of rfl, one_of rfl⟩
noncomputable def ti191 : TI := ⟨Go.Proofs.Tryz.t191.desc, 1, 8, [.nilfn]⟩
theorem ti191_ok : TI.ok Tryz.prog 191 ti191 := ⟨Tryz.underlying191, ⟨Tryz.t191, by kernel_rfl, by kernel_rfl, by kernel_rfl, fun _ => rfl⟩, rfl, bel_of rfl, one_of rfl⟩
noncomputable def ti192 : TI := ⟨Go.Proofs.Tryz.t192.desc, 1, 8, [.nilfn]⟩
theorem ti192_ok : TI.ok Tryz.prog 192 ti192 := ⟨Tryz.underlying192, ⟨Tryz.t192, by kernel_rfl, by kernel_rfl, by kernel_rfl, fun _ => rfl⟩, rfl, bel_of rfl, one_of rfl⟩
noncomputable def ti193 : TI := ⟨Go.Proofs.Tryz.t193.desc, 1, 8, [.nilfn]⟩
theorem ti193_ok : TI.ok Tryz.prog 193 ti193 := ⟨Tryz.underlying193, ⟨Tryz.t193, by kernel_rfl, by kernel_rfl, by kernel_rfl, fun _ => rfl⟩, rfl, bel_of rfl, one_of rfl⟩
noncomputable def ti194 : TI := ⟨Go.Proofs.Tryz.t194.desc, 6, 48, [.int .i64 0, .int .i64 0, .int .i64 0, .int .i64 0, .int .i64 0, .int .i64 0]⟩
theorem ti194_ok : TI.ok Tryz.prog 194 ti194 := ⟨Tryz.underlying194, ⟨Tryz.t194, by kernel_rfl, by kernel_rfl, by kernel_rfl, fun _ => rfl⟩, rfl, bel_of rfl, one_of rfl⟩
noncomputable def ti195 : TI := ⟨Go.Proofs.Tryz.t195.desc, 1, 8, [.nilfn]⟩
theorem ti195_ok : TI.ok Tryz.prog 195 ti195 := ⟨Tryz.underlying195, ⟨Tryz.t195, by kernel_rfl, by kernel_rfl, by kernel_rfl, fun _ => rfl⟩, rfl, bel_of rfl, one_of rfl⟩
noncomputable def ti196 : TI := ⟨Go.Proofs.Tryz.t196.desc, 1, 8, [.nilfn]⟩
theorem ti196_ok : TI.ok Tryz.prog 196 ti196 := ⟨Tryz.underlying196, ⟨Tryz.t196, by kernel_rfl, by kernel_rfl, by kernel_rfl, fun _ => rfl⟩, rfl, bel_of rfl, one_of rfl⟩
noncomputable def ti197 : TI := ⟨Go.Proofs.Tryz.t197.desc, 1, 8, [.nilfn]⟩
theorem ti197_ok : TI.ok Tryz.prog 197 ti197 := ⟨Tryz.underlying197, ⟨Tryz.t197, by kernel_rfl, by kernel_rfl, by kernel_rfl, fun _ => rfl⟩, rfl, bel_of rfl, one_of rfl⟩
noncomputable def ti198 : TI := ⟨Go.Proofs.Tryz.t198.desc, 1, 8, [.nilfn]⟩
theorem ti198_ok : TI.ok Tryz.prog 198 ti198 := ⟨Tryz.underlying198, ⟨Tryz.t198, by kernel_rfl, by kernel_rfl, by kernel_rfl, fun _ => rfl⟩, rfl, bel_of rfl, one_of rfl⟩
noncomputable def ti199 : TI := ⟨Go.Proofs.Tryz.t199.desc, 1, 8, [.nilfn]⟩
theorem ti199_ok : TI.ok Tryz.prog 199 ti199 := ⟨Tryz.underlying199, ⟨Tryz.t199, by kernel_rfl, by kernel_rfl, by kernel_rfl, fun _ => rfl⟩, rfl, bel_of rfl, one_of rfl⟩
noncomputable def ti200 : TI := ⟨Go.Proofs.Tryz.t200.desc, 1, 8, [.nilfn]⟩
theorem ti200_ok : TI.ok Tryz.prog 200 ti200 := ⟨Tryz.underlying200, ⟨Tryz.t200, by kernel_rfl, by kernel_rfl, by kernel_rfl, fun _ => rfl⟩, rfl, bel_of rfl, one_of rfl⟩
noncomputable def ti201 : TI := ⟨Go.Proofs.Tryz.t201.desc, 1, 4, [.int .u32 0]⟩
theorem ti201_ok : TI.ok Tryz.prog 201 ti201 := ⟨Tryz.underlying201, ⟨Tryz.t201, by kernel_rfl, by kernel_rfl, by kernel_rfl, fun _ => rfl⟩, rfl, bel_of rfl, one_of rfl⟩
noncomputable def ti203 : TI := ⟨Go.Proofs.Tryz.t203.desc, 1, 8, [.nilfn]⟩
theorem ti203_ok : TI.ok Tryz.prog 203 ti203 := ⟨Tryz.underlying203, ⟨Tryz.t203, by kernel_rfl, by kernel_rfl, by kernel_rfl, fun _ => rfl⟩, rfl, bel_of rfl, one_of rfl⟩
noncomputable def ti205 : TI := ⟨Go.Proofs.Tryz.t205.desc, 1, 8, [.nilfn]⟩
theorem ti205_ok : TI.ok Tryz.prog 205 ti205 := ⟨Tryz.underlying205, ⟨Tryz.t205, by kernel_rfl, by kernel_rfl, by kernel_rfl, fun _ => rfl⟩, rfl, bel_of rfl, one_of rfl⟩
noncomputable def ti206 : TI := ⟨Go.Proofs.Tryz.t206.desc, 1, 8, [.nilfn]⟩
theorem ti206_ok : TI.ok Tryz.prog 206 ti206 := ⟨Tryz.underlying206, ⟨Tryz.t206, by kernel_rfl, by kernel_rfl, by kernel_rfl, fun _ => rfl⟩, rfl, bel_of rfl, one_of rfl⟩
noncomputable def ti207 : TI := ⟨Go.Proofs.Tryz.t207.desc, 1, 8, [.nilfn]⟩
theorem ti207_ok : TI.ok Tryz.prog 207 ti207 := ⟨Tryz.underlying207, ⟨Tryz.t207, by kernel_rfl, by kernel_rfl, by kernel_rfl, fun _ => rfl⟩, rfl, bel_of rfl, one_of rfl⟩
noncomputable def ti208 : TI := ⟨Go.Proofs.Tryz.t208.desc, 1, 8, [.nilfn]⟩
theorem ti208_ok : TI.ok Tryz.prog 208 ti208 := ⟨Tryz.underlying208, ⟨Tryz.t208, by kernel_rfl, by kernel_rfl, by kernel_rfl, fun _ => rfl⟩, rfl, bel_of rfl, one_of rfl⟩
noncomputable def ti209 : TI := ⟨Go.Proofs.Tryz.t209.desc, 1, 8, [.nilfn]⟩
theorem ti209_ok : TI.ok Tryz.prog 209 ti209 := ⟨Tryz.underlying209, ⟨Tryz.t209, by kernel_rfl, by kernel_rfl, by kernel_rfl, fun _ => rfl⟩, rfl, bel_of rfl, one_of rfl⟩
noncomputable def ti210 : TI := ⟨Go.Proofs.Tryz.t210.desc, 1, 8, [.nilptr]⟩
theorem ti210_ok : TI.ok Tryz.prog 210 ti210 := ⟨Tryz.underlying210, ⟨Tryz.t210, by kernel_rfl, by kernel_rfl, by kernel_rfl, fun _ => rfl⟩, rfl, bel_of rfl, one_of rfl⟩
noncomputable def ti211 : TI := ⟨Go.Proofs.Tryz.t211.desc, 1, 8, [.nilfn]⟩
theorem ti211_ok : TI.ok Tryz.prog 211 ti211 := ⟨Tryz.underlying211, ⟨Tryz.t211, by kernel_rfl, by kernel_rfl, by kernel_rfl, fun _ => rfl⟩, rfl, bel_of rfl, one_of rfl⟩
noncomputable def ti212 : TI := ⟨Go.Proofs.Tryz.t212.desc, 1, 8, [.nilfn]⟩
theorem ti212_ok : TI.ok Tryz.prog 212 ti212 := ⟨Tryz.underlying212, ⟨Tryz.t212, by kernel_rfl, by kernel_rfl, by kernel_rfl, fun _ => rfl⟩, rfl, bel_of rfl, one_of rfl⟩
noncomputable def ti213 : TI := ⟨Go.Proofs.Tryz.t213.desc, 1, 8, [.nilfn]⟩
theorem ti213_ok : TI.ok Tryz.prog 213 ti213 := ⟨Tryz.underlying213, ⟨Tryz.t213, by kernel_rfl, by kernel_rfl, by kernel_rfl, fun _ => rfl⟩, rfl, bel_of rfl, one_of rfl⟩
noncomputable def ti215 : TI := ⟨Go.Proofs.Tryz.t215.desc, 1, 8, [.nilfn]⟩
theorem ti215_ok : TI.ok Tryz.prog 215 ti215 := ⟨Tryz.underlying215, ⟨Tryz.t215, by kernel_rfl, by kernel_rfl, by kernel_rfl, fun _ => rfl⟩, rfl, bel_of rfl, one_of rfl⟩
noncomputable def ti216 : TI := ⟨Go.Proofs.Tryz.t216.desc, 1, 24, [.nilsl]⟩
theorem ti216_ok : TI.ok Tryz.prog 216 ti216 := ⟨Tryz.underlying216, ⟨Tryz.t216, by kernel_rfl, by kernel_rfl, by kernel_rfl, fun _ => rfl⟩, rfl, bel_of rfl, one_of rfl⟩
noncomputable def ti217 : TI := ⟨Go.Proofs.Tryz.t217.desc, 1, 8, [.nilfn]⟩
theorem ti217_ok : TI.ok Tryz.prog 217 ti217 := ⟨Tryz.underlying217, ⟨Tryz.t217, by kernel_rfl, by kernel_rfl, by kernel_rfl, fun _ => rfl⟩, rfl, bel_of rfl, one_of rfl⟩
noncomputable def ti218 : TI := ⟨Go.Proofs.Tryz.t218.desc, 1, 8, [.nilfn]⟩
theorem ti218_ok : TI.ok Tryz.prog 218 ti218 := ⟨Tryz.underlying218, ⟨Tryz.t218, by kernel_rfl, by kernel_rfl, by kernel_rfl, fun _ => rfl⟩, rfl, bel_of rfl, one_of rfl⟩
noncomputable def ti220 : TI := ⟨Go.Proofs.Tryz.t220.desc, 2, 2, [.int .u8 0, .int .u8 0]⟩
theorem ti220_ok : TI.ok Tryz.prog 220 ti220 := ⟨Tryz.underlying220, ⟨Tryz.t220, by kernel_rfl, by kernel_rfl, by kernel_rfl, fun _ => rfl⟩, rfl, bel_of rfl, one_of rfl⟩
noncomputable def ti221 : TI := ⟨Go.Proofs.Tryz.t220.desc, 2, 2, [.int .u8 0, .int .u8 0]⟩
theorem ti221_ok : TI.ok Tryz.prog 221 ti221 := ⟨Tryz.underlying221, ⟨Tryz.t221, by kernel_rfl, by kernel_rfl, by kernel_rfl, fun _ => rfl⟩, rfl, bel_of rfl, one_of rfl⟩
noncomputable def ti222 : TI := ⟨Go.Proofs.Tryz.t222.desc, 32, 32, [.int .u8 0, .int .u8 0, .int .u8 0, .int .u8 0, .int .u8 0, .int .u8 0, .int .u8 0, .int .u8 0, .int .u8 0, .int .u8 0, .int .u8 0, .int .u8 0, .int .u8 0, .int .u8 0, .int .u8 0, .int .u8 0, .int .u8 0, .int .u8 0, .int .u8 0, .int .u8 0, .int .u8 0, .int .u8 0, .int .u8 0, .int .u8 0, .int .u8 0, .int .u8 0, .int .u8 0, .int .u8 0, .int .u8 0, .int .u8 0, .int .u8 0, .int .u8 0]⟩
theorem ti222_ok : TI.ok Tryz.prog 222 ti222 := ⟨Tryz.underlying222, ⟨Tryz.t222, by kernel_rfl, by kernel_rfl, by kernel_rfl, fun _ => rfl⟩, rfl, bel_of rfl, one_of rfl⟩
noncomputable def ti223 : TI := ⟨Go.Proofs.Tryz.t223.desc, 1, 8, [.nilptr]⟩
theorem ti223_ok : TI.ok Tryz.prog 223 ti223 := ⟨Tryz.underlying223, ⟨Tryz.t223, by kernel_rfl, by kernel_rfl, by kernel_rfl, fun _ => rfl⟩, rfl, bel_of rfl, one_of rfl⟩
noncomputable def ti224 : TI := ⟨Go.Proofs.Tryz.t224.desc, 1, 8, [.nilfn]⟩
theorem ti224_ok : TI.ok Tryz.prog 224 ti224 := ⟨Tryz.underlying224, ⟨Tryz.t224, by kernel_rfl, by kernel_rfl, by kernel_rfl, fun _ => rfl⟩, rfl, bel_of rfl, one_of rfl⟩
noncomputable def ti225 : TI := ⟨Go.Proofs.Tryz.t225.desc, 1, 8, [.nilfn]⟩
theorem ti225_ok : TI.ok Tryz.prog 225 ti225 := ⟨Tryz.underlying225, ⟨Tryz.t225, by kernel_rfl, by kernel_rfl, by kernel_rfl, fun _ => rfl⟩, rfl, bel_of rfl, one_of rfl⟩
noncomputable def ti226 : TI := ⟨Go.Proofs.Tryz.t226.desc, 1, 8, [.nilfn]⟩
theorem ti226_ok : TI.ok Tryz.prog 226 ti226 := ⟨Tryz.underlying226, ⟨Tryz.t226, by kernel_rfl, by kernel_rfl, by kernel_rfl, fun _ => rfl⟩, rfl, bel_of rfl, one_of rfl⟩
noncomputable def ti227 : TI := ⟨Go.Proofs.Tryz.t227.desc, 3, 12, [.int .i32 0, .int .i32 0, .int .i32 0]⟩
theorem ti227_ok : TI.ok Tryz.prog 227 ti227 := ⟨Tryz.underlying227, ⟨Tryz.t227, by kernel_rfl, by kernel_rfl, by kernel_rfl, fun _ => rfl⟩, rfl, bel_of rfl, one_of rfl⟩
noncomputable def ti228 : TI := ⟨Go.Proofs.Tryz.t227.desc, 3, 12, [.int .i32 0, .int .i32 0, .int .i32 0]⟩
theorem ti228_ok : TI.ok Tryz.prog 228 ti228 := ⟨Tryz.underlying228, ⟨Tryz.t228, by kernel_rfl, by kernel_rfl, by kernel_rfl, fun _ => rfl⟩, rfl, bel_of rfl, one_of rfl⟩
noncomputable def ti229 : TI := ⟨Go.Proofs.Tryz.t229.desc, 5, 20, [.int .u32 0, .int .u32 0, .int .i32 0, .int .i32 0, .int .i32 0]⟩
theorem ti229_ok : TI.ok Tryz.prog 229 ti229 := ⟨Tryz.underlying229, ⟨Tryz.t229, by kernel_rfl, by kernel_rfl, by kernel_rfl, fun _ => rfl⟩, rfl, bel_of rfl, one_of rfl⟩
noncomputable def ti230 : TI := ⟨Go.Proofs.Tryz.t229.desc, 5, 20, [.int .u32 0, .int .u32 0, .int .i32 0, .int .i32 0, .int .i32 0]⟩
theorem ti230_ok : TI.ok Tryz.prog 230 ti230 := ⟨Tryz.underlying230, ⟨Tryz.t230, by kernel_rfl, by kernel_rfl, by kernel_rfl, fun _ => rfl⟩, rfl, bel_of rfl, one_of rfl⟩
noncomputable def ti231 : TI := ⟨Go.Proofs.Tryz.t231.desc, 4, 40, [.nilptr, .nilptr, .nilptr, .str []]⟩
theorem ti231_ok : TI.ok Tryz.prog 231 ti231 := ⟨Tryz.underlying231, ⟨Tryz.t231, by kernel_rfl, by kernel_rfl, by kernel_rfl, fun _ => rfl⟩, rfl, bel_of rfl, one_of rfl⟩
noncomputable def ti232 : TI := ⟨Go.Proofs.Tryz.t231.desc, 4, 40, [.nilptr, .nilptr, .nilptr, .str []]⟩
theorem ti232_ok : TI.ok Tryz.prog 232 ti232 := ⟨Tryz.underlying232, ⟨Tryz.t232, by kernel_rfl, by kernel_rfl, by kernel_rfl, fun _ => rfl⟩, rfl, bel_of rfl, one_of rfl⟩
noncomputable def ti233 : TI := ⟨Go.Proofs.Tryz.t233.desc, 0, 0, []⟩
theorem ti233_ok : TI.ok Tryz.prog 233 ti233 := ⟨Tryz.underlying233, ⟨Tryz.t233, by kernel_rfl, by kernel_rfl, by kernel_rfl, fun _ => rfl⟩, rfl, bel_of rfl, one_of rfl⟩
noncomputable def ti234 : TI := ⟨Go.Proofs.Tryz.t234.desc, 0, 0, []⟩
theorem ti234_ok : TI.ok Tryz.prog 234 ti234 := ⟨Tryz.underlying234, ⟨Tryz.t234, by kernel_rfl, by kernel_rfl, by kernel_rfl, fun _ => rfl⟩, rfl, bel_of rfl, one_of rfl⟩
noncomputable def ti235 : TI := ⟨Go.Proofs.Tryz.t234.desc, 0, 0, []⟩
theorem ti235_ok : TI.ok Tryz.prog 235 ti235 := ⟨Tryz.underlying235, ⟨Tryz.t235, by kernel_rfl, by kernel_rfl, by kernel_rfl, fun _ => rfl⟩, rfl, bel_of rfl, one_of rfl⟩
noncomputable def ti236 : TI := ⟨Go.Proofs.Tryz.t5.desc, 1, 1, [.int .u8 0]⟩
theorem ti236_ok : TI.ok Tryz.prog 236 ti236 := ⟨Tryz.underlying236, ⟨Tryz.t236, by kernel_rfl, by kernel_rfl, by kernel_rfl, fun _ => rfl⟩, rfl, bel_of rfl, one_of rfl⟩
noncomputable def ti237 : TI := ⟨Go.Proofs.Tryz.t5.desc, 1, 1, [.int .u8 0]⟩
theorem ti237_ok : TI.ok Tryz.prog 237 ti237 := ⟨Tryz.underlying237, ⟨Tryz.t237, by kernel_rfl, by kernel_rfl, by kernel_rfl, fun _ => rfl⟩, rfl, bel_of rfl, one_of rfl⟩
noncomputable def ti238 : TI := ⟨Go.Proofs.Tryz.t238.desc, 1, 8, [.nilfn]⟩
theorem ti238_ok : TI.ok Tryz.prog 238 ti238 := ⟨Tryz.underlying238, ⟨Tryz.t238, by kernel_rfl, by kernel_rfl, by kernel_rfl, fun _ => rfl⟩, rfl, bel_of rfl, one_of rfl⟩
noncomputable def ti239 : TI := ⟨Go.Proofs.Tryz.t21.desc, 1, 4, [.int .i32 0]⟩
theorem ti239_ok : TI.ok Tryz.prog 239 ti239 := ⟨Tryz.underlying239, ⟨Tryz.t239, by kernel_rfl, by kernel_rfl, by kernel_rfl, fun _ => rfl⟩, rfl, bel_of rfl, one_of rfl⟩
noncomputable def ti240 : TI := ⟨Go.Proofs.Tryz.t21.desc, 1, 4, [.int .i32 0]⟩
theorem ti240_ok : TI.ok Tryz.prog 240 ti240 := ⟨Tryz.underlying240, ⟨Tryz.t240, by kernel_rfl, by kernel_rfl, by kernel_rfl, fun _ => rfl⟩, rfl, bel_of rfl, one_of rfl⟩
noncomputable def ti241 : TI := ⟨Go.Proofs.Tryz.t241.desc, 11, 48, [.int .u64 0, .int .u64 0, .int .u32 0, .int .u8 0, .int .u8 0, .int .u8 0, .int .u8 0, .nilfn, .nilptr, .int .i32 0, .int .i32 0]⟩
theorem ti241_ok : TI.ok Tryz.prog 241 ti241 := ⟨Tryz.underlying241, ⟨Tryz.t241, by kernel_rfl, by kernel_rfl, by kernel_rfl, fun _ => rfl⟩, rfl, bel_of rfl, one_of rfl⟩
noncomputable def ti242 : TI := ⟨Go.Proofs.Tryz.t241.desc, 11, 48, [.int .u64 0, .int .u64 0, .int .u32 0, .int .u8 0, .int .u8 0, .int .u8 0, .int .u8 0, .nilfn, .nilptr, .int .i32 0, .int .i32 0]⟩
theorem ti242_ok : TI.ok Tryz.prog 242 ti242 := ⟨Tryz.underlying242, ⟨Tryz.t242, by kernel_rfl, by kernel_rfl, by kernel_rfl, fun _ => rfl⟩, rfl, bel_of rfl, one_of rfl⟩
noncomputable def tab : Tr := (.node 117 (.node 59 (.node 27 (.node 13 (.node 6 (.node 3 (.leaf [(1, ti1), (2, ti2), (3, ti3)]) (.leaf [(4, ti4), (5, ti5), (6, ti6)])) (.node 9 (.leaf [(7, ti7), (8, ti8), (9, ti9)]) (.leaf [(10, ti10), (11, ti11), (12, ti12), (13, ti13)]))) (.node 20 (.node 16 (.leaf [(14, ti14), (15, ti15), (16, ti16)]) (.leaf [(17, ti17), (18, ti18), (19, ti19), (20, ti20)])) (.node 23 (.leaf [(21, ti21), (22, ti22), (23, ti23)]) (.leaf [(24, ti24), (25, ti25), (26, ti26), (27, ti27)])))) (.node 43 (.node 35 (.node 31 (.leaf [(28, ti28), (29, ti29), (31, ti31)]) (.leaf [(32, ti32), (33, ti33), (34, ti34), (35, ti35)])) (.node 38 (.leaf [(36, ti36), (37, ti37), (38, ti38)]) (.leaf [(39, ti39), (40, ti40), (41, ti41), (43, ti43)]))) (.node 50 (.node 46 (.leaf [(44, ti44), (45, ti45), (46, ti46)]) (.leaf [(47, ti47), (48, ti48), (49, ti49), (50, ti50)])) (.node 54 (.leaf [(51, ti51), (53, ti53), (54, ti54)]) (.leaf [(55, ti55), (56, ti56), (57, ti57), (59, ti59)]))))) (.node 89 (.node 75 (.node 67 (.node 62 (.leaf [(60, ti60), (61, ti61), (62, ti62)]) (.leaf [(63, ti63), (64, ti64), (65, ti65), (67, ti67)])) (.node 70 (.leaf [(68, ti68), (69, ti69), (70, ti70)]) (.leaf [(71, ti71), (72, ti72), (74, ti74), (75, ti75)]))) (.node 82 (.node 78 (.leaf [(76, ti76), (77, ti77), (78, ti78)]) (.leaf [(79, ti79), (80, ti80), (81, ti81), (82, ti82)])) (.node 85 (.leaf [(83, ti83), (84, ti84), (85, ti85)]) (.leaf [(86, ti86), (87, ti87), (88, ti88), (89, ti89)])))) (.node 103 (.node 96 (.node 92 (.leaf [(90, ti90), (91, ti91), (92, ti92)]) (.leaf [(93, ti93), (94, ti94), (95, ti95), (96, ti96)])) (.node 99 (.leaf [(97, ti97), (98, ti98), (99, ti99)]) (.leaf [(100, ti100), (101, ti101), (102, ti102), (103, ti103)]))) (.node 110 (.node 106 (.leaf [(104, ti104), (105, ti105), (106, ti106)]) (.leaf [(107, ti107), (108, ti108), (109, ti109), (110, ti110)])) (.node 113 (.leaf [(111, ti111), (112, ti112), (113, ti113)]) (.leaf [(114, ti114), (115, ti115), (116, ti116), (117, ti117)])))))) (.node 179 (.node 147 (.node 132 (.node 123 (.node 120 (.leaf [(118, ti118), (119, ti119), (120, ti120)]) (.leaf [(121, ti121), (122, ti122), (123, ti123)])) (.node 127 (.leaf [(124, ti124), (125, ti125), (127, ti127)]) (.leaf [(129, ti129), (130, ti130), (131, ti131), (132, ti132)]))) (.node 140 (.node 136 (.leaf [(134, ti134), (135, ti135), (136, ti136)]) (.leaf [(137, ti137), (138, ti138), (139, ti139), (140, ti140)])) (.node 143 (.leaf [(141, ti141), (142, ti142), (143, ti143)]) (.leaf [(144, ti144), (145, ti145), (146, ti146), (147, ti147)])))) (.node 165 (.node 157 (.node 153 (.leaf [(148, ti148), (149, ti149), (153, ti153)]) (.leaf [(154, ti154), (155, ti155), (156, ti156), (157, ti157)])) (.node 161 (.leaf [(159, ti159), (160, ti160), (161, ti161)]) (.leaf [(162, ti162), (163, ti163), (164, ti164), (165, ti165)]))) (.node 172 (.node 168 (.leaf [(166, ti166), (167, ti167), (168, ti168)]) (.leaf [(169, ti169), (170, ti170), (171, ti171), (172, ti172)])) (.node 175 (.leaf [(173, ti173), (174, ti174), (175, ti175)]) (.leaf [(176, ti176), (177, ti177), (178, ti178), (179, ti179)]))))) (.node 212 (.node 196 (.node 188 (.node 183 (.leaf [(181, ti181), (182, ti182), (183, ti183)]) (.leaf [(184, ti184), (185, ti185), (186, ti186), (188, ti188)])) (.node 192 (.leaf [(189, ti189), (191, ti191), (192, ti192)]) (.leaf [(193, ti193), (194, ti194), (195, ti195), (196, ti196)]))) (.node 205 (.node 199 (.leaf [(197, ti197), (198, ti198), (199, ti199)]) (.leaf [(200, ti200), (201, ti201), (203, ti203), (205, ti205)])) (.node 208 (.leaf [(206, ti206), (207, ti207), (208, ti208)]) (.leaf [(209, ti209), (210, ti210), (211, ti211), (212, ti212)])))) (.node 228 (.node 221 (.node 216 (.leaf [(213, ti213), (215, ti215), (216, ti216)]) (.leaf [(217, ti217), (218, ti218), (220, ti220), (221, ti221)])) (.node 224 (.leaf [(222, ti222), (223, ti223), (224, ti224)]) (.leaf [(225, ti225), (226, ti226), (227, ti227), (228, ti228)]))) (.node 235 (.node 231 (.leaf [(229, ti229), (230, ti230), (231, ti231)]) (.leaf [(232, ti232), (233, ti233), (234, ti234), (235, ti235)])) (.node 238 (.leaf [(236, ti236), (237, ti237), (238, ti238)]) (.leaf [(239, ti239), (240, ti240), (241, ti241), (242, ti242)])))))))
noncomputable def Θ : Tys := tab.get
theorem hΘ : Tys.Ok Tryz.prog Θ := Tr.ok tab ⟨⟨⟨⟨⟨⟨⟨ti1_ok, ⟨ti2_ok, ⟨ti3_ok, trivial⟩⟩⟩, ⟨ti4_ok, ⟨ti5_ok, ⟨ti6_ok, trivial⟩⟩⟩⟩, ⟨⟨ti7_ok, ⟨ti8_ok, ⟨ti9_ok, trivial⟩⟩⟩, ⟨ti10_ok, ⟨ti11_ok, ⟨ti12_ok, ⟨ti13_ok, trivial⟩⟩⟩⟩⟩⟩, ⟨⟨⟨ti14_ok, ⟨ti15_ok, ⟨ti16_ok, trivial⟩⟩⟩, ⟨ti17_ok, ⟨ti18_ok, ⟨ti19_ok, ⟨ti20_ok, trivial⟩⟩⟩⟩⟩, ⟨⟨ti21_ok, ⟨ti22_ok, ⟨ti23_ok, trivial⟩⟩⟩, ⟨ti24_ok, ⟨ti25_ok, ⟨ti26_ok, ⟨ti27_ok, trivial⟩⟩⟩⟩⟩⟩⟩, ⟨⟨⟨⟨ti28_ok, ⟨ti29_ok, ⟨ti31_ok, trivial⟩⟩⟩, ⟨ti32_ok, ⟨ti33_ok, ⟨ti34_ok, ⟨ti35_ok, trivial⟩⟩⟩⟩⟩, ⟨⟨ti36_ok, ⟨ti37_ok, ⟨ti38_ok, trivial⟩⟩⟩, ⟨ti39_ok, ⟨ti40_ok, ⟨ti41_ok, ⟨ti43_ok, trivial⟩⟩⟩⟩⟩⟩, ⟨⟨⟨ti44_ok, ⟨ti45_ok, ⟨ti46_ok, trivial⟩⟩⟩, ⟨ti47_ok, ⟨ti48_ok, ⟨ti49_ok, ⟨ti50_ok, trivial⟩⟩⟩⟩⟩, ⟨⟨ti51_ok, ⟨ti53_ok, ⟨ti54_ok, trivial⟩⟩⟩, ⟨ti55_ok, ⟨ti56_ok, ⟨ti57_ok, ⟨ti59_ok, trivial⟩⟩⟩⟩⟩⟩⟩⟩, ⟨⟨⟨⟨⟨ti60_ok, ⟨ti61_ok, ⟨ti62_ok, trivial⟩⟩⟩, ⟨ti63_ok, ⟨ti64_ok, ⟨ti65_ok, ⟨ti67_ok, trivial⟩⟩⟩⟩⟩, ⟨⟨ti68_ok, ⟨ti69_ok, ⟨ti70_ok, trivial⟩⟩⟩, ⟨ti71_ok, ⟨ti72_ok, ⟨ti74_ok, ⟨ti75_ok, trivial⟩⟩⟩⟩⟩⟩, ⟨⟨⟨ti76_ok, ⟨ti77_ok, ⟨ti78_ok, trivial⟩⟩⟩, ⟨ti79_ok, ⟨ti80_ok, ⟨ti81_ok, ⟨ti82_ok, trivial⟩⟩⟩⟩⟩, ⟨⟨ti83_ok, ⟨ti84_ok, ⟨ti85_ok, trivial⟩⟩⟩, ⟨ti86_ok, ⟨ti87_ok, ⟨ti88_ok, ⟨ti89_ok, trivial⟩⟩⟩⟩⟩⟩⟩, ⟨⟨⟨⟨ti90_ok, ⟨ti91_ok, ⟨ti92_ok, trivial⟩⟩⟩, ⟨ti93_ok, ⟨ti94_ok, ⟨ti95_ok, ⟨ti96_ok, trivial⟩⟩⟩⟩⟩, ⟨⟨ti97_ok, ⟨ti98_ok, ⟨ti99_ok, trivial⟩⟩⟩, ⟨ti100_ok, ⟨ti101_ok, ⟨ti102_ok, ⟨ti103_ok, trivial⟩⟩⟩⟩⟩⟩, ⟨⟨⟨ti104_ok, ⟨ti105_ok, ⟨ti106_ok, trivial⟩⟩⟩, ⟨ti107_ok, ⟨ti108_ok, ⟨ti109_ok, ⟨ti110_ok, trivial⟩⟩⟩⟩⟩, ⟨⟨ti111_ok, ⟨ti112_ok, ⟨ti113_ok, trivial⟩⟩⟩, ⟨ti114_ok, ⟨ti115_ok, ⟨ti116_ok, ⟨ti117_ok, trivial⟩⟩⟩⟩⟩⟩⟩⟩⟩, ⟨⟨⟨⟨⟨⟨ti118_ok, ⟨ti119_ok, ⟨ti120_ok, trivial⟩⟩⟩, ⟨ti121_ok, ⟨ti122_ok, ⟨ti123_ok, trivial⟩⟩⟩⟩, ⟨⟨ti124_ok, ⟨ti125_ok, ⟨ti127_ok, trivial⟩⟩⟩, ⟨ti129_ok, ⟨ti130_ok, ⟨ti131_ok, ⟨ti132_ok, trivial⟩⟩⟩⟩⟩⟩, ⟨⟨⟨ti134_ok, ⟨ti135_ok, ⟨ti136_ok, trivial⟩⟩⟩, ⟨ti137_ok, ⟨ti138_ok, ⟨ti139_ok, ⟨ti140_ok, trivial⟩⟩⟩⟩⟩, ⟨⟨ti141_ok, ⟨ti142_ok, ⟨ti143_ok, trivial⟩⟩⟩, ⟨ti144_ok, ⟨ti145_ok, ⟨ti146_ok, ⟨ti147_ok, trivial⟩⟩⟩⟩⟩⟩⟩, ⟨⟨⟨⟨ti148_ok, ⟨ti149_ok, ⟨ti153_ok, trivial⟩⟩⟩, ⟨ti154_ok, ⟨ti155_ok, ⟨ti156_ok, ⟨ti157_ok, trivial⟩⟩⟩⟩⟩, ⟨⟨ti159_ok, ⟨ti160_ok, ⟨ti161_ok, trivial⟩⟩⟩, ⟨ti162_ok, ⟨ti163_ok, ⟨ti164_ok, ⟨ti165_ok, trivial⟩⟩⟩⟩⟩⟩, ⟨⟨⟨ti166_ok, ⟨ti167_ok, ⟨ti168_ok, trivial⟩⟩⟩, ⟨ti169_ok, ⟨ti170_ok, ⟨ti171_ok, ⟨ti172_ok, trivial⟩⟩⟩⟩⟩, ⟨⟨ti173_ok, ⟨ti174_ok, ⟨ti175_ok, trivial⟩⟩⟩, ⟨ti176_ok, ⟨ti177_ok, ⟨ti178_ok, ⟨ti179_ok, trivial⟩⟩⟩⟩⟩⟩⟩⟩, ⟨⟨⟨⟨⟨ti181_ok, ⟨ti182_ok, ⟨ti183_ok, trivial⟩⟩⟩, ⟨ti184_ok, ⟨ti185_ok, ⟨ti186_ok, ⟨ti188_ok, trivial⟩⟩⟩⟩⟩, ⟨⟨ti189_ok, ⟨ti191_ok, ⟨ti192_ok, trivial⟩⟩⟩, ⟨ti193_ok, ⟨ti194_ok, ⟨ti195_ok, ⟨ti196_ok, trivial⟩⟩⟩⟩⟩⟩, ⟨⟨⟨ti197_ok, ⟨ti198_ok, ⟨ti199_ok, trivial⟩⟩⟩, ⟨ti200_ok, ⟨ti201_ok, ⟨ti203_ok, ⟨ti205_ok, trivial⟩⟩⟩⟩⟩, ⟨⟨ti206_ok, ⟨ti207_ok, ⟨ti208_ok, trivial⟩⟩⟩, ⟨ti209_ok, ⟨ti210_ok, ⟨ti211_ok, ⟨ti212_ok, trivial⟩⟩⟩⟩⟩⟩⟩, ⟨⟨⟨⟨ti213_ok, ⟨ti215_ok, ⟨ti216_ok, trivial⟩⟩⟩, ⟨ti217_ok, ⟨ti218_ok, ⟨ti220_ok, ⟨ti221_ok, trivial⟩⟩⟩⟩⟩, ⟨⟨ti222_ok, ⟨ti223_ok, ⟨ti224_ok, trivial⟩⟩⟩, ⟨ti225_ok, ⟨ti226_ok, ⟨ti227_ok, ⟨ti228_ok, trivial⟩⟩⟩⟩⟩⟩, ⟨⟨⟨ti229_ok, ⟨ti230_ok, ⟨ti231_ok, trivial⟩⟩⟩, ⟨ti232_ok, ⟨ti233_ok, ⟨ti234_ok, ⟨ti235_ok, trivial⟩⟩⟩⟩⟩, ⟨⟨ti236_ok, ⟨ti237_ok, ⟨ti238_ok, trivial⟩⟩⟩, ⟨ti239_ok, ⟨ti240_ok, ⟨ti241_ok, ⟨ti242_ok, trivial⟩⟩⟩⟩⟩⟩⟩⟩⟩⟩
end Go.Proofs.YtblllibdahkgfaaGreatDoor
