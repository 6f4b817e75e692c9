/- A part of the proof: GdBase. -/
import Derived.Test.YtnjbnkbhddeljaaGreatDoorProg
import Derived.Test.YtnjbnkbhddeljaaGreatDoorX04
import Derived.KernelRfl
set_option linter.unusedVariables false
set_option maxRecDepth 100000
namespace Go.Proofs.YtnjbnkbhddeljaaGreatDoor
open Go Go.AE
theorem hmix : Tryz.prog.follows .mixedOrders = true := by kernel_rfl
theorem ag28 : aggOk Tryz.prog 28 4 = true := by kernel_rfl
theorem ag41 : aggOk Tryz.prog 41 4 = true := by kernel_rfl
theorem ag44 : aggOk Tryz.prog 44 3 = true := by kernel_rfl
theorem ag73 : aggOk Tryz.prog 73 4 = true := by kernel_rfl
theorem ag90 : aggOk Tryz.prog 90 8 = true := by kernel_rfl
theorem app22_22 : appOk Tryz.prog 22 22 4 64 = true := by kernel_rfl
theorem app23_23 : appOk Tryz.prog 23 23 1 8 = true := by kernel_rfl
theorem zCV : appOk Tryz.prog 32 32 1 24 = true := by kernel_rfl
theorem app39_39 : appOk Tryz.prog 39 39 4 80 = true := by kernel_rfl
theorem app56_56 : appOk Tryz.prog 56 56 3 32 = true := by kernel_rfl
theorem app69_69 : appOk Tryz.prog 69 69 1 8 = true := by kernel_rfl
theorem app70_70 : appOk Tryz.prog 70 70 1 16 = true := by kernel_rfl
theorem app71_71 : appOk Tryz.prog 71 71 1 1 = true := by kernel_rfl
theorem ar163 : arrOk Tryz.prog 163 8 1 = true := by kernel_rfl
theorem ar90 : arrOk Tryz.prog 90 8 1 = true := by kernel_rfl
theorem ce2 : zDO Tryz.prog 2 = true := by kernel_rfl
theorem ce23 : zDO Tryz.prog 23 = true := by kernel_rfl
theorem ce3 : zDO Tryz.prog 3 = true := by kernel_rfl
theorem ce32 : zDO Tryz.prog 32 = true := by kernel_rfl
theorem ce37 : zDO Tryz.prog 37 = true := by kernel_rfl
theorem ce38 : zDO Tryz.prog 38 = true := by kernel_rfl
theorem ce39 : zDO Tryz.prog 39 = true := by kernel_rfl
theorem ce4 : zDO Tryz.prog 4 = true := by kernel_rfl
theorem ce5 : zDO Tryz.prog 5 = true := by kernel_rfl
theorem ce56 : zDO Tryz.prog 56 = true := by kernel_rfl
theorem ce69 : zDO Tryz.prog 69 = true := by kernel_rfl
theorem ce70 : zDO Tryz.prog 70 = true := by kernel_rfl
theorem ce71 : zDO Tryz.prog 71 = true := by kernel_rfl
theorem ce79 : zDO Tryz.prog 79 = true := by kernel_rfl
theorem ce9 : zDO Tryz.prog 9 = true := by kernel_rfl
theorem ce93 : zDO Tryz.prog 93 = true := by kernel_rfl
theorem csb9_120 : convSBOk Tryz.prog 9 120 = true := by kernel_rfl
theorem fo28_3 : zCT Tryz.prog 28 3 3 = true := by kernel_rfl
theorem fo41_0 : zCT Tryz.prog 41 0 0 = true := by kernel_rfl
theorem fo41_1 : zCT Tryz.prog 41 1 1 = true := by kernel_rfl
theorem fo41_2 : zCT Tryz.prog 41 2 2 = true := by kernel_rfl
theorem fo41_3 : zCT Tryz.prog 41 3 3 = true := by kernel_rfl
theorem fo44_0 : zCT Tryz.prog 44 0 0 = true := by kernel_rfl
theorem zDM : zCT Tryz.prog 44 1 1 = true := by kernel_rfl
theorem fo44_2 : zCT Tryz.prog 44 2 2 = true := by kernel_rfl
theorem fo58_0 : zCT Tryz.prog 58 0 0 = true := by kernel_rfl
theorem fo58_1 : zCT Tryz.prog 58 1 1 = true := by kernel_rfl
theorem fo58_2 : zCT Tryz.prog 58 2 2 = true := by kernel_rfl
theorem fo73_0 : zCT Tryz.prog 73 0 0 = true := by kernel_rfl
theorem fo73_1 : zCT Tryz.prog 73 1 1 = true := by kernel_rfl
theorem fo73_2 : zCT Tryz.prog 73 2 2 = true := by kernel_rfl
theorem zDI : zCT Tryz.prog 73 3 3 = true := by kernel_rfl
theorem fo95_0 : zCT Tryz.prog 95 0 0 = true := by kernel_rfl
theorem fo95_1 : zCT Tryz.prog 95 1 1 = true := by kernel_rfl
theorem fo95_2 : zCT Tryz.prog 95 2 2 = true := by kernel_rfl
theorem io162 : intOk Tryz.prog 162 .u64 = true := by kernel_rfl
theorem io2 : intOk Tryz.prog 2 .i64 = true := by kernel_rfl
theorem io3 : intOk Tryz.prog 3 .i64 = true := by kernel_rfl
theorem io5 : intOk Tryz.prog 5 .u8 = true := by kernel_rfl
theorem io91 : intOk Tryz.prog 91 .u64 = true := by kernel_rfl
theorem ix90 : ixOk Tryz.prog 90 8 = true := by kernel_rfl
theorem l0_32 : lit0Ok Tryz.prog 32 = true := by kernel_rfl
theorem li22 : lit1Ok Tryz.prog 22 4 = true := by kernel_rfl
theorem li23 : lit1Ok Tryz.prog 23 1 = true := by kernel_rfl
theorem li32 : lit1Ok Tryz.prog 32 1 = true := by kernel_rfl
theorem li39 : lit1Ok Tryz.prog 39 4 = true := by kernel_rfl
theorem li56 : lit1Ok Tryz.prog 56 3 = true := by kernel_rfl
theorem li69 : lit1Ok Tryz.prog 69 1 = true := by kernel_rfl
theorem li70 : lit1Ok Tryz.prog 70 1 = true := by kernel_rfl
theorem li71 : lit1Ok Tryz.prog 71 1 = true := by kernel_rfl
theorem map93 : mapOk Tryz.prog 93 .u64 (.slice none 0 0) = true := by kernel_rfl
theorem mk23 : mkOk Tryz.prog 23 1 8 = true := by kernel_rfl
theorem mk32 : mkOk Tryz.prog 32 1 24 = true := by kernel_rfl
theorem mk56 : mkOk Tryz.prog 56 3 32 = true := by kernel_rfl
theorem mz23 : mkZero Tryz.prog 23 = some [.int .i64 0] := by kernel_rfl
theorem mz32 : mkZero Tryz.prog 32 = some [.slice none 0 0] := by kernel_rfl
theorem mz56 : mkZero Tryz.prog 56 = some [.int .i64 0, .int .i64 0, .string ByteArray.empty] := by kernel_rfl
theorem nm10 : zBM Tryz.f10.name = false := by kernel_rfl
theorem nm11 : zBM Tryz.f11.name = false := by kernel_rfl
theorem nm12 : zBM Tryz.f12.name = false := by kernel_rfl
theorem nm132 : zBM Tryz.f132.name = false := by kernel_rfl
theorem nm133 : zBM Tryz.f133.name = false := by kernel_rfl
theorem nm134 : zBM Tryz.f134.name = false := by kernel_rfl
theorem nm135 : zBM Tryz.f135.name = false := by kernel_rfl
theorem nm14 : zBM Tryz.f14.name = false := by kernel_rfl
theorem nm15 : zBM Tryz.f15.name = false := by kernel_rfl
theorem nm16 : zBM Tryz.f16.name = false := by kernel_rfl
theorem nm20 : zBM Tryz.f20.name = false := by kernel_rfl
theorem nm21 : zBM Tryz.f21.name = false := by kernel_rfl
theorem nm22 : zBM Tryz.f22.name = false := by kernel_rfl
theorem nm23 : zBM Tryz.f23.name = false := by kernel_rfl
theorem nm24 : zBM Tryz.f24.name = false := by kernel_rfl
theorem nm25 : zBM Tryz.f25.name = false := by kernel_rfl
theorem nm26 : zBM Tryz.f26.name = false := by kernel_rfl
theorem nm27 : zBM Tryz.f27.name = false := by kernel_rfl
theorem nm28 : zBM Tryz.f28.name = false := by kernel_rfl
theorem nm29 : zBM Tryz.f29.name = false := by kernel_rfl
theorem nm37 : zBM Tryz.f37.name = false := by kernel_rfl
theorem nm38 : zBM Tryz.f38.name = false := by kernel_rfl
theorem nm39 : zBM Tryz.f39.name = false := by kernel_rfl
theorem nm4 : zBM Tryz.f4.name = false := by kernel_rfl
theorem nm40 : zBM Tryz.f40.name = false := by kernel_rfl
theorem nm41 : zBM Tryz.f41.name = false := by kernel_rfl
theorem nm42 : zBM Tryz.f42.name = false := by kernel_rfl
theorem nm43 : zBM Tryz.f43.name = false := by kernel_rfl
theorem nm44 : zBM Tryz.f44.name = false := by kernel_rfl
theorem nm45 : zBM Tryz.f45.name = false := by kernel_rfl
theorem nm46 : zBM Tryz.f46.name = false := by kernel_rfl
theorem nm47 : zBM Tryz.f47.name = false := by kernel_rfl
theorem nm48 : zBM Tryz.f48.name = false := by kernel_rfl
theorem nm49 : zBM Tryz.f49.name = false := by kernel_rfl
theorem nm5 : zBM Tryz.f5.name = false := by kernel_rfl
theorem nm50 : zBM Tryz.f50.name = false := by kernel_rfl
theorem nm51 : zBM Tryz.f51.name = false := by kernel_rfl
theorem nm6 : zBM Tryz.f6.name = false := by kernel_rfl
theorem nm64 : zBM Tryz.f64.name = false := by kernel_rfl
theorem nm65 : zBM Tryz.f65.name = false := by kernel_rfl
theorem nm66 : zBM Tryz.f66.name = false := by kernel_rfl
theorem nm67 : zBM Tryz.f67.name = false := by kernel_rfl
theorem nm68 : zBM Tryz.f68.name = false := by kernel_rfl
theorem nm69 : zBM Tryz.f69.name = false := by kernel_rfl
theorem nm7 : zBM Tryz.f7.name = false := by kernel_rfl
theorem nm70 : zBM Tryz.f70.name = false := by kernel_rfl
theorem nm71 : zBM Tryz.f71.name = false := by kernel_rfl
theorem nm72 : zBM Tryz.f72.name = false := by kernel_rfl
theorem nm73 : zBM Tryz.f73.name = false := by kernel_rfl
theorem nm74 : zBM Tryz.f74.name = false := by kernel_rfl
theorem nm75 : zBM Tryz.f75.name = false := by kernel_rfl
theorem nm76 : zBM Tryz.f76.name = false := by kernel_rfl
theorem nm77 : zBM Tryz.f77.name = false := by kernel_rfl
theorem nm8 : zBM Tryz.f8.name = false := by kernel_rfl
theorem nm89 : zBM Tryz.f89.name = false := by kernel_rfl
theorem nm9 : zBM Tryz.f9.name = false := by kernel_rfl
theorem nm90 : zBM Tryz.f90.name = false := by kernel_rfl
theorem nm91 : zBM Tryz.f91.name = false := by kernel_rfl
theorem nm92 : zBM Tryz.f92.name = false := by kernel_rfl
theorem nm93 : zBM Tryz.f93.name = false := by kernel_rfl
theorem nm94 : zBM Tryz.f94.name = false := by kernel_rfl
theorem nm95 : zBM Tryz.f95.name = false := by kernel_rfl
theorem nn32_t3 : binVal Tryz.prog .eql 32 (.tmp 3) (.const (.slice none 0 0)) (.slice none 0 0) (.slice none 0 0) = some (.bool true) := by kernel_rfl
theorem pl28 : placesOf Tryz.prog 28 = some [(0, 1), (1, 1), (2, 1), (3, 1)] := by kernel_rfl
theorem pl41 : placesOf Tryz.prog 41 = some [(0, 1), (1, 1), (2, 1), (3, 1)] := by kernel_rfl
theorem pl44 : placesOf Tryz.prog 44 = some [(0, 1), (1, 1), (2, 1)] := by kernel_rfl
theorem pl58 : placesOf Tryz.prog 58 = some [(0, 1), (1, 1), (2, 1)] := by kernel_rfl
theorem pl73 : placesOf Tryz.prog 73 = some [(0, 1), (1, 1), (2, 1), (3, 1)] := by kernel_rfl
theorem pl95 : placesOf Tryz.prog 95 = some [(0, 1), (1, 1), (2, 1)] := by kernel_rfl
theorem sl120 : slOk Tryz.prog 120 1 = true := by kernel_rfl
theorem sl22 : slOk Tryz.prog 22 4 = true := by kernel_rfl
theorem sl23 : slOk Tryz.prog 23 1 = true := by kernel_rfl
theorem sl32 : slOk Tryz.prog 32 1 = true := by kernel_rfl
theorem sl37 : slOk Tryz.prog 37 13 = true := by kernel_rfl
theorem sl38 : slOk Tryz.prog 38 3 = true := by kernel_rfl
theorem sl39 : slOk Tryz.prog 39 4 = true := by kernel_rfl
theorem sl55 : slOk Tryz.prog 55 3 = true := by kernel_rfl
theorem sl56 : slOk Tryz.prog 56 3 = true := by kernel_rfl
theorem sl69 : slOk Tryz.prog 69 1 = true := by kernel_rfl
theorem sl70 : slOk Tryz.prog 70 1 = true := by kernel_rfl
theorem sl71 : slOk Tryz.prog 71 1 = true := by kernel_rfl
theorem sl79 : slOk Tryz.prog 79 2 = true := by kernel_rfl
theorem str9 : strOk Tryz.prog 9 = true := by kernel_rfl
theorem sz28 : szOk Tryz.prog 28 4 = true := by kernel_rfl
theorem sz3 : szOk Tryz.prog 3 1 = true := by kernel_rfl
theorem sz32 : szOk Tryz.prog 32 1 = true := by kernel_rfl
theorem sz39 : szOk Tryz.prog 39 1 = true := by kernel_rfl
theorem sz41 : szOk Tryz.prog 41 4 = true := by kernel_rfl
theorem sz44 : szOk Tryz.prog 44 3 = true := by kernel_rfl
theorem sz69 : szOk Tryz.prog 69 1 = true := by kernel_rfl
theorem sz70 : szOk Tryz.prog 70 1 = true := by kernel_rfl
theorem sz71 : szOk Tryz.prog 71 1 = true := by kernel_rfl
theorem sz73 : szOk Tryz.prog 73 4 = true := by kernel_rfl
theorem ze163 : zDD Tryz.prog 163 = some [.int .u8 0, .int .u8 0, .int .u8 0, .int .u8 0, .int .u8 0, .int .u8 0, .int .u8 0, .int .u8 0] := by kernel_rfl
theorem ze28 : zDD Tryz.prog 28 = some [.int .i64 0, .int .i64 0, .int .i64 0, .int .i64 0] := by kernel_rfl
theorem ze41 : zDD Tryz.prog 41 = some [.slice none 0 0, .int .i64 0, .bool false, .slice none 0 0] := by kernel_rfl
theorem ze44 : zDD Tryz.prog 44 = some [.int .i64 0, .int .i64 0, .string ByteArray.empty] := by kernel_rfl
theorem ze58 : zDD Tryz.prog 58 = some [.slice none 0 0, .slice none 0 0, .int .i64 0] := by kernel_rfl
theorem ze73 : zDD Tryz.prog 73 = some [.int .i64 0, .slice none 0 0, .slice none 0 0, .slice none 0 0] := by kernel_rfl
theorem ze90 : zDD Tryz.prog 90 = some [.slice none 0 0, .slice none 0 0, .slice none 0 0, .slice none 0 0, .slice none 0 0, .slice none 0 0, .slice none 0 0, .slice none 0 0] := by kernel_rfl
theorem ze95 : zDD Tryz.prog 95 = some [.map none, .slice none 0 0, .slice none 0 0] := by kernel_rfl
end Go.Proofs.YtnjbnkbhddeljaaGreatDoor
