import Derived.Test.YtfdgbghlanbddaaDoorAvDraw2
import Derived.Test.YtfdgbghlanbddaaDoorProg
import Derived.KernelRfl
namespace Go.Proofs.YtfdgbghlanbddaaDoor.Av
open Go.Proofs
set_option maxRecDepth 20000
theorem ty_1 : tyB Tryd.prog 1 false 1 = true := by kernel_rfl
theorem by_1 : bytesB Tryd.prog 1 8 = true := by kernel_rfl
theorem ze_1 : zeroAVs Tryd.prog 1 = some ([.raw .nilFunc]) := by kernel_rfl
theorem ty_2 : tyB Tryd.prog 2 false 1 = true := by kernel_rfl
theorem by_2 : bytesB Tryd.prog 2 8 = true := by kernel_rfl
theorem in_2 : intB Tryd.prog 2 .i64 = true := by kernel_rfl
theorem ze_2 : zeroAVs Tryd.prog 2 = some ([.int .i64 0]) := by kernel_rfl
theorem ty_3 : tyB Tryd.prog 3 false 1 = true := by kernel_rfl
theorem by_3 : bytesB Tryd.prog 3 8 = true := by kernel_rfl
theorem in_3 : intB Tryd.prog 3 .i64 = true := by kernel_rfl
theorem ze_3 : zeroAVs Tryd.prog 3 = some ([.int .i64 0]) := by kernel_rfl
theorem ty_4 : tyB Tryd.prog 4 false 1 = true := by kernel_rfl
theorem by_4 : bytesB Tryd.prog 4 1 = true := by kernel_rfl
theorem ub_4 : Tryd.prog.underlying 4 = some .bool := by kernel_rfl
theorem ze_4 : zeroAVs Tryd.prog 4 = some ([.bool false]) := by kernel_rfl
theorem ty_5 : tyB Tryd.prog 5 false 1 = true := by kernel_rfl
theorem by_5 : bytesB Tryd.prog 5 1 = true := by kernel_rfl
theorem in_5 : intB Tryd.prog 5 .u8 = true := by kernel_rfl
theorem ze_5 : zeroAVs Tryd.prog 5 = some ([.int .u8 0]) := by kernel_rfl
theorem ty_6 : tyB Tryd.prog 6 false 1 = true := by kernel_rfl
theorem by_6 : bytesB Tryd.prog 6 1 = true := by kernel_rfl
theorem in_6 : intB Tryd.prog 6 .u8 = true := by kernel_rfl
theorem ze_6 : zeroAVs Tryd.prog 6 = some ([.int .u8 0]) := by kernel_rfl
theorem ty_7 : tyB Tryd.prog 7 true 4 = true := by kernel_rfl
theorem by_7 : bytesB Tryd.prog 7 24 = true := by kernel_rfl
theorem fa_7_0 : fieldB Tryd.prog 7 0 0 = true := by kernel_rfl
theorem fv_7_0 : fieldV Tryd.prog 7 0 0 false 1 = true := by kernel_rfl
theorem fa_7_1 : fieldB Tryd.prog 7 1 1 = true := by kernel_rfl
theorem fv_7_1 : fieldV Tryd.prog 7 1 1 false 1 = true := by kernel_rfl
theorem fa_7_2 : fieldB Tryd.prog 7 2 2 = true := by kernel_rfl
theorem fv_7_2 : fieldV Tryd.prog 7 2 2 false 1 = true := by kernel_rfl
theorem fa_7_3 : fieldB Tryd.prog 7 3 3 = true := by kernel_rfl
theorem fv_7_3 : fieldV Tryd.prog 7 3 3 false 1 = true := by kernel_rfl
theorem pl_7 : placesOf Tryd.prog 7 = some [(0, 1), (1, 1), (2, 1), (3, 1)] := by kernel_rfl
theorem ze_7 : zeroAVs Tryd.prog 7 = some ([.int .i64 0, .int .i64 0, .bool false, .int .u8 0]) := by kernel_rfl
theorem ty_8 : tyB Tryd.prog 8 true 4 = true := by kernel_rfl
theorem by_8 : bytesB Tryd.prog 8 24 = true := by kernel_rfl
theorem fa_8_0 : fieldB Tryd.prog 8 0 0 = true := by kernel_rfl
theorem fv_8_0 : fieldV Tryd.prog 8 0 0 false 1 = true := by kernel_rfl
theorem fa_8_1 : fieldB Tryd.prog 8 1 1 = true := by kernel_rfl
theorem fv_8_1 : fieldV Tryd.prog 8 1 1 false 1 = true := by kernel_rfl
theorem fa_8_2 : fieldB Tryd.prog 8 2 2 = true := by kernel_rfl
theorem fv_8_2 : fieldV Tryd.prog 8 2 2 false 1 = true := by kernel_rfl
theorem fa_8_3 : fieldB Tryd.prog 8 3 3 = true := by kernel_rfl
theorem fv_8_3 : fieldV Tryd.prog 8 3 3 false 1 = true := by kernel_rfl
theorem pl_8 : placesOf Tryd.prog 8 = some [(0, 1), (1, 1), (2, 1), (3, 1)] := by kernel_rfl
theorem ze_8 : zeroAVs Tryd.prog 8 = some ([.int .i64 0, .int .i64 0, .bool false, .int .u8 0]) := by kernel_rfl
theorem ty_9 : tyB Tryd.prog 9 false 1 = true := by kernel_rfl
theorem by_9 : bytesB Tryd.prog 9 16 = true := by kernel_rfl
theorem us_9 : Tryd.prog.underlying 9 = some .string := by kernel_rfl
theorem ze_9 : zeroAVs Tryd.prog 9 = some ([.str ⟨#[]⟩]) := by kernel_rfl
theorem ty_10 : tyB Tryd.prog 10 false 1 = true := by kernel_rfl
theorem by_10 : bytesB Tryd.prog 10 16 = true := by kernel_rfl
theorem us_10 : Tryd.prog.underlying 10 = some .string := by kernel_rfl
theorem ze_10 : zeroAVs Tryd.prog 10 = some ([.str ⟨#[]⟩]) := by kernel_rfl
theorem ty_11 : tyB Tryd.prog 11 false 1 = true := by kernel_rfl
theorem by_11 : bytesB Tryd.prog 11 16 = true := by kernel_rfl
theorem us_11 : Tryd.prog.underlying 11 = some .string := by kernel_rfl
theorem ze_11 : zeroAVs Tryd.prog 11 = some ([.str ⟨#[]⟩]) := by kernel_rfl
theorem ty_12 : tyB Tryd.prog 12 false 1 = true := by kernel_rfl
theorem by_12 : bytesB Tryd.prog 12 8 = true := by kernel_rfl
theorem in_12 : intB Tryd.prog 12 .u64 = true := by kernel_rfl
theorem ze_12 : zeroAVs Tryd.prog 12 = some ([.int .u64 0]) := by kernel_rfl
theorem ty_13 : tyB Tryd.prog 13 true 2 = true := by kernel_rfl
theorem by_13 : bytesB Tryd.prog 13 24 = true := by kernel_rfl
theorem fa_13_0 : fieldB Tryd.prog 13 0 0 = true := by kernel_rfl
theorem fv_13_0 : fieldV Tryd.prog 13 0 0 false 1 = true := by kernel_rfl
theorem fa_13_1 : fieldB Tryd.prog 13 1 1 = true := by kernel_rfl
theorem fv_13_1 : fieldV Tryd.prog 13 1 1 false 1 = true := by kernel_rfl
theorem pl_13 : placesOf Tryd.prog 13 = some [(0, 1), (1, 1)] := by kernel_rfl
theorem ze_13 : zeroAVs Tryd.prog 13 = some ([.str ⟨#[]⟩, .int .u64 0]) := by kernel_rfl
theorem ty_14 : tyB Tryd.prog 14 true 2 = true := by kernel_rfl
theorem by_14 : bytesB Tryd.prog 14 24 = true := by kernel_rfl
theorem fa_14_0 : fieldB Tryd.prog 14 0 0 = true := by kernel_rfl
theorem fv_14_0 : fieldV Tryd.prog 14 0 0 false 1 = true := by kernel_rfl
theorem fa_14_1 : fieldB Tryd.prog 14 1 1 = true := by kernel_rfl
theorem fv_14_1 : fieldV Tryd.prog 14 1 1 false 1 = true := by kernel_rfl
theorem pl_14 : placesOf Tryd.prog 14 = some [(0, 1), (1, 1)] := by kernel_rfl
theorem ze_14 : zeroAVs Tryd.prog 14 = some ([.str ⟨#[]⟩, .int .u64 0]) := by kernel_rfl
theorem ty_15 : tyB Tryd.prog 15 false 1 = true := by kernel_rfl
theorem by_15 : bytesB Tryd.prog 15 8 = true := by kernel_rfl
theorem ze_15 : zeroAVs Tryd.prog 15 = some ([.raw (.pointer none)]) := by kernel_rfl
theorem ty_16 : tyB Tryd.prog 16 false 1 = true := by kernel_rfl
theorem by_16 : bytesB Tryd.prog 16 8 = true := by kernel_rfl
theorem ze_16 : zeroAVs Tryd.prog 16 = some ([.raw (.pointer none)]) := by kernel_rfl
theorem ty_17 : tyB Tryd.prog 17 false 1 = true := by kernel_rfl
theorem by_17 : bytesB Tryd.prog 17 8 = true := by kernel_rfl
theorem ze_17 : zeroAVs Tryd.prog 17 = some ([.raw (.pointer none)]) := by kernel_rfl
theorem ty_18 : tyB Tryd.prog 18 true 1 = true := by kernel_rfl
theorem by_18 : bytesB Tryd.prog 18 8 = true := by kernel_rfl
theorem fa_18_0 : fieldB Tryd.prog 18 0 0 = true := by kernel_rfl
theorem fv_18_0 : fieldV Tryd.prog 18 0 0 false 1 = true := by kernel_rfl
theorem pl_18 : placesOf Tryd.prog 18 = some [(0, 1)] := by kernel_rfl
theorem ze_18 : zeroAVs Tryd.prog 18 = some ([.raw (.pointer none)]) := by kernel_rfl
theorem ty_19 : tyB Tryd.prog 19 true 1 = true := by kernel_rfl
theorem by_19 : bytesB Tryd.prog 19 8 = true := by kernel_rfl
theorem fa_19_0 : fieldB Tryd.prog 19 0 0 = true := by kernel_rfl
theorem fv_19_0 : fieldV Tryd.prog 19 0 0 false 1 = true := by kernel_rfl
theorem pl_19 : placesOf Tryd.prog 19 = some [(0, 1)] := by kernel_rfl
theorem ze_19 : zeroAVs Tryd.prog 19 = some ([.raw (.pointer none)]) := by kernel_rfl
theorem ty_21 : tyB Tryd.prog 21 false 1 = true := by kernel_rfl
theorem by_21 : bytesB Tryd.prog 21 4 = true := by kernel_rfl
theorem in_21 : intB Tryd.prog 21 .i32 = true := by kernel_rfl
theorem ze_21 : zeroAVs Tryd.prog 21 = some ([.int .i32 0]) := by kernel_rfl
theorem ty_22 : tyB Tryd.prog 22 false 1 = true := by kernel_rfl
theorem by_22 : bytesB Tryd.prog 22 24 = true := by kernel_rfl
theorem sl_22 : sliceB Tryd.prog 22 5 1 = true := by kernel_rfl
theorem ze_22 : zeroAVs Tryd.prog 22 = some ([.nil]) := by kernel_rfl
theorem ty_23 : tyB Tryd.prog 23 false 1 = true := by kernel_rfl
theorem by_23 : bytesB Tryd.prog 23 8 = true := by kernel_rfl
theorem ze_23 : zeroAVs Tryd.prog 23 = some ([.raw .nilFunc]) := by kernel_rfl
theorem ty_24 : tyB Tryd.prog 24 false 1 = true := by kernel_rfl
theorem by_24 : bytesB Tryd.prog 24 8 = true := by kernel_rfl
theorem in_24 : intB Tryd.prog 24 .u64 = true := by kernel_rfl
theorem ze_24 : zeroAVs Tryd.prog 24 = some ([.int .u64 0]) := by kernel_rfl
theorem ty_25 : tyB Tryd.prog 25 true 4 = true := by kernel_rfl
theorem by_25 : bytesB Tryd.prog 25 32 = true := by kernel_rfl
theorem ar_25 : arrB Tryd.prog 25 4 24 1 = true := by kernel_rfl
theorem ai_25 : arrI Tryd.prog 25 4 .u64 = true := by kernel_rfl
theorem ze_25 : zeroAVs Tryd.prog 25 = some ([.int .u64 0, .int .u64 0, .int .u64 0, .int .u64 0]) := by kernel_rfl
theorem ty_26 : tyB Tryd.prog 26 true 4 = true := by kernel_rfl
theorem by_26 : bytesB Tryd.prog 26 32 = true := by kernel_rfl
theorem ar_26 : arrB Tryd.prog 26 4 24 1 = true := by kernel_rfl
theorem ai_26 : arrI Tryd.prog 26 4 .u64 = true := by kernel_rfl
theorem ze_26 : zeroAVs Tryd.prog 26 = some ([.int .u64 0, .int .u64 0, .int .u64 0, .int .u64 0]) := by kernel_rfl
theorem ty_27 : tyB Tryd.prog 27 false 1 = true := by kernel_rfl
theorem by_27 : bytesB Tryd.prog 27 24 = true := by kernel_rfl
theorem sl_27 : sliceB Tryd.prog 27 29 6 = true := by kernel_rfl
theorem ze_27 : zeroAVs Tryd.prog 27 = some ([.nil]) := by kernel_rfl
theorem ty_28 : tyB Tryd.prog 28 true 6 = true := by kernel_rfl
theorem by_28 : bytesB Tryd.prog 28 64 = true := by kernel_rfl
theorem fa_28_0 : fieldB Tryd.prog 28 0 0 = true := by kernel_rfl
theorem fv_28_0 : fieldV Tryd.prog 28 0 0 false 1 = true := by kernel_rfl
theorem fa_28_1 : fieldB Tryd.prog 28 1 1 = true := by kernel_rfl
theorem fv_28_1 : fieldV Tryd.prog 28 1 1 true 4 = true := by kernel_rfl
theorem fa_28_2 : fieldB Tryd.prog 28 2 5 = true := by kernel_rfl
theorem fv_28_2 : fieldV Tryd.prog 28 2 5 false 1 = true := by kernel_rfl
theorem pl_28 : placesOf Tryd.prog 28 = some [(0, 1), (1, 4), (5, 1)] := by kernel_rfl
theorem ze_28 : zeroAVs Tryd.prog 28 = some ([.int .i64 0, .int .u64 0, .int .u64 0, .int .u64 0, .int .u64 0, .nil]) := by kernel_rfl
theorem ty_29 : tyB Tryd.prog 29 true 6 = true := by kernel_rfl
theorem by_29 : bytesB Tryd.prog 29 64 = true := by kernel_rfl
theorem fa_29_0 : fieldB Tryd.prog 29 0 0 = true := by kernel_rfl
theorem fv_29_0 : fieldV Tryd.prog 29 0 0 false 1 = true := by kernel_rfl
theorem fa_29_1 : fieldB Tryd.prog 29 1 1 = true := by kernel_rfl
theorem fv_29_1 : fieldV Tryd.prog 29 1 1 true 4 = true := by kernel_rfl
theorem fa_29_2 : fieldB Tryd.prog 29 2 5 = true := by kernel_rfl
theorem fv_29_2 : fieldV Tryd.prog 29 2 5 false 1 = true := by kernel_rfl
theorem pl_29 : placesOf Tryd.prog 29 = some [(0, 1), (1, 4), (5, 1)] := by kernel_rfl
theorem ze_29 : zeroAVs Tryd.prog 29 = some ([.int .i64 0, .int .u64 0, .int .u64 0, .int .u64 0, .int .u64 0, .nil]) := by kernel_rfl
theorem ty_30 : tyB Tryd.prog 30 false 1 = true := by kernel_rfl
theorem by_30 : bytesB Tryd.prog 30 8 = true := by kernel_rfl
theorem ze_30 : zeroAVs Tryd.prog 30 = some ([.raw (.pointer none)]) := by kernel_rfl
theorem ty_31 : tyB Tryd.prog 31 false 1 = true := by kernel_rfl
theorem by_31 : bytesB Tryd.prog 31 8 = true := by kernel_rfl
theorem ze_31 : zeroAVs Tryd.prog 31 = some ([.raw .nilFunc]) := by kernel_rfl
theorem ty_32 : tyB Tryd.prog 32 false 1 = true := by kernel_rfl
theorem by_32 : bytesB Tryd.prog 32 8 = true := by kernel_rfl
theorem ze_32 : zeroAVs Tryd.prog 32 = some ([.raw .nilFunc]) := by kernel_rfl
theorem ty_33 : tyB Tryd.prog 33 false 1 = true := by kernel_rfl
theorem by_33 : bytesB Tryd.prog 33 8 = true := by kernel_rfl
theorem ze_33 : zeroAVs Tryd.prog 33 = some ([.raw .nilFunc]) := by kernel_rfl
theorem ty_34 : tyB Tryd.prog 34 false 1 = true := by kernel_rfl
theorem by_34 : bytesB Tryd.prog 34 24 = true := by kernel_rfl
theorem sl_34 : sliceB Tryd.prog 34 75 6 = true := by kernel_rfl
theorem ze_34 : zeroAVs Tryd.prog 34 = some ([.nil]) := by kernel_rfl
theorem ty_35 : tyB Tryd.prog 35 true 3 = true := by kernel_rfl
theorem by_35 : bytesB Tryd.prog 35 40 = true := by kernel_rfl
theorem fa_35_0 : fieldB Tryd.prog 35 0 0 = true := by kernel_rfl
theorem fv_35_0 : fieldV Tryd.prog 35 0 0 false 1 = true := by kernel_rfl
theorem fa_35_1 : fieldB Tryd.prog 35 1 1 = true := by kernel_rfl
theorem fv_35_1 : fieldV Tryd.prog 35 1 1 false 1 = true := by kernel_rfl
theorem fa_35_2 : fieldB Tryd.prog 35 2 2 = true := by kernel_rfl
theorem fv_35_2 : fieldV Tryd.prog 35 2 2 false 1 = true := by kernel_rfl
theorem pl_35 : placesOf Tryd.prog 35 = some [(0, 1), (1, 1), (2, 1)] := by kernel_rfl
theorem ze_35 : zeroAVs Tryd.prog 35 = some ([.nil, .int .i64 0, .int .i64 0]) := by kernel_rfl
theorem ty_36 : tyB Tryd.prog 36 true 3 = true := by kernel_rfl
theorem by_36 : bytesB Tryd.prog 36 40 = true := by kernel_rfl
theorem fa_36_0 : fieldB Tryd.prog 36 0 0 = true := by kernel_rfl
theorem fv_36_0 : fieldV Tryd.prog 36 0 0 false 1 = true := by kernel_rfl
theorem fa_36_1 : fieldB Tryd.prog 36 1 1 = true := by kernel_rfl
theorem fv_36_1 : fieldV Tryd.prog 36 1 1 false 1 = true := by kernel_rfl
theorem fa_36_2 : fieldB Tryd.prog 36 2 2 = true := by kernel_rfl
theorem fv_36_2 : fieldV Tryd.prog 36 2 2 false 1 = true := by kernel_rfl
theorem pl_36 : placesOf Tryd.prog 36 = some [(0, 1), (1, 1), (2, 1)] := by kernel_rfl
theorem ze_36 : zeroAVs Tryd.prog 36 = some ([.nil, .int .i64 0, .int .i64 0]) := by kernel_rfl
theorem ty_37 : tyB Tryd.prog 37 false 1 = true := by kernel_rfl
theorem by_37 : bytesB Tryd.prog 37 8 = true := by kernel_rfl
theorem in_37 : intB Tryd.prog 37 .i64 = true := by kernel_rfl
theorem ze_37 : zeroAVs Tryd.prog 37 = some ([.int .i64 0]) := by kernel_rfl
theorem ty_39 : tyB Tryd.prog 39 false 1 = true := by kernel_rfl
theorem by_39 : bytesB Tryd.prog 39 8 = true := by kernel_rfl
theorem ze_39 : zeroAVs Tryd.prog 39 = some ([.raw .nilFunc]) := by kernel_rfl
theorem ty_40 : tyB Tryd.prog 40 false 1 = true := by kernel_rfl
theorem by_40 : bytesB Tryd.prog 40 8 = true := by kernel_rfl
theorem ze_40 : zeroAVs Tryd.prog 40 = some ([.raw .nilFunc]) := by kernel_rfl
theorem ty_41 : tyB Tryd.prog 41 false 1 = true := by kernel_rfl
theorem by_41 : bytesB Tryd.prog 41 8 = true := by kernel_rfl
theorem ze_41 : zeroAVs Tryd.prog 41 = some ([.raw .nilFunc]) := by kernel_rfl
theorem ty_42 : tyB Tryd.prog 42 false 1 = true := by kernel_rfl
theorem by_42 : bytesB Tryd.prog 42 8 = true := by kernel_rfl
theorem ze_42 : zeroAVs Tryd.prog 42 = some ([.raw .nilFunc]) := by kernel_rfl
theorem ty_43 : tyB Tryd.prog 43 false 1 = true := by kernel_rfl
theorem by_43 : bytesB Tryd.prog 43 8 = true := by kernel_rfl
theorem ze_43 : zeroAVs Tryd.prog 43 = some ([.raw .nilFunc]) := by kernel_rfl
theorem ty_44 : tyB Tryd.prog 44 false 1 = true := by kernel_rfl
theorem by_44 : bytesB Tryd.prog 44 8 = true := by kernel_rfl
theorem ze_44 : zeroAVs Tryd.prog 44 = some ([.raw .nilFunc]) := by kernel_rfl
theorem ty_45 : tyB Tryd.prog 45 false 1 = true := by kernel_rfl
theorem by_45 : bytesB Tryd.prog 45 8 = true := by kernel_rfl
theorem ze_45 : zeroAVs Tryd.prog 45 = some ([.raw .nilFunc]) := by kernel_rfl
theorem ty_46 : tyB Tryd.prog 46 false 1 = true := by kernel_rfl
theorem by_46 : bytesB Tryd.prog 46 8 = true := by kernel_rfl
theorem ze_46 : zeroAVs Tryd.prog 46 = some ([.raw .nilFunc]) := by kernel_rfl
theorem ty_47 : tyB Tryd.prog 47 false 1 = true := by kernel_rfl
theorem by_47 : bytesB Tryd.prog 47 8 = true := by kernel_rfl
theorem ze_47 : zeroAVs Tryd.prog 47 = some ([.raw .nilFunc]) := by kernel_rfl
theorem ty_48 : tyB Tryd.prog 48 false 1 = true := by kernel_rfl
theorem by_48 : bytesB Tryd.prog 48 24 = true := by kernel_rfl
theorem sl_48 : sliceB Tryd.prog 48 3 1 = true := by kernel_rfl
theorem ze_48 : zeroAVs Tryd.prog 48 = some ([.nil]) := by kernel_rfl
theorem ty_49 : tyB Tryd.prog 49 false 1 = true := by kernel_rfl
theorem by_49 : bytesB Tryd.prog 49 8 = true := by kernel_rfl
theorem ze_49 : zeroAVs Tryd.prog 49 = some ([.raw .nilFunc]) := by kernel_rfl
theorem ty_50 : tyB Tryd.prog 50 false 1 = true := by kernel_rfl
theorem by_50 : bytesB Tryd.prog 50 8 = true := by kernel_rfl
theorem ze_50 : zeroAVs Tryd.prog 50 = some ([.raw .nilFunc]) := by kernel_rfl
theorem ty_51 : tyB Tryd.prog 51 false 1 = true := by kernel_rfl
theorem by_51 : bytesB Tryd.prog 51 8 = true := by kernel_rfl
theorem ze_51 : zeroAVs Tryd.prog 51 = some ([.raw .nilFunc]) := by kernel_rfl
theorem ty_52 : tyB Tryd.prog 52 false 1 = true := by kernel_rfl
theorem by_52 : bytesB Tryd.prog 52 8 = true := by kernel_rfl
theorem ze_52 : zeroAVs Tryd.prog 52 = some ([.raw .nilFunc]) := by kernel_rfl
theorem ty_53 : tyB Tryd.prog 53 false 1 = true := by kernel_rfl
theorem by_53 : bytesB Tryd.prog 53 8 = true := by kernel_rfl
theorem ze_53 : zeroAVs Tryd.prog 53 = some ([.raw .nilFunc]) := by kernel_rfl
theorem ty_54 : tyB Tryd.prog 54 false 1 = true := by kernel_rfl
theorem by_54 : bytesB Tryd.prog 54 8 = true := by kernel_rfl
theorem ze_54 : zeroAVs Tryd.prog 54 = some ([.raw .nilFunc]) := by kernel_rfl
theorem ty_55 : tyB Tryd.prog 55 false 1 = true := by kernel_rfl
theorem by_55 : bytesB Tryd.prog 55 8 = true := by kernel_rfl
theorem ze_55 : zeroAVs Tryd.prog 55 = some ([.raw .nilFunc]) := by kernel_rfl
theorem ty_56 : tyB Tryd.prog 56 false 1 = true := by kernel_rfl
theorem by_56 : bytesB Tryd.prog 56 8 = true := by kernel_rfl
theorem ze_56 : zeroAVs Tryd.prog 56 = some ([.raw .nilFunc]) := by kernel_rfl
theorem ty_57 : tyB Tryd.prog 57 false 1 = true := by kernel_rfl
theorem by_57 : bytesB Tryd.prog 57 8 = true := by kernel_rfl
theorem ze_57 : zeroAVs Tryd.prog 57 = some ([.raw .nilFunc]) := by kernel_rfl
theorem ty_58 : tyB Tryd.prog 58 true 256 = true := by kernel_rfl
theorem by_58 : bytesB Tryd.prog 58 256 = true := by kernel_rfl
theorem ar_58 : arrB Tryd.prog 58 256 5 1 = true := by kernel_rfl
theorem ai_58 : arrI Tryd.prog 58 256 .u8 = true := by kernel_rfl
theorem ze_58 : zeroAVs Tryd.prog 58 = some (List.replicate 256 (.int .u8 0)) := by kernel_rfl
theorem ty_59 : tyB Tryd.prog 59 false 1 = true := by kernel_rfl
theorem by_59 : bytesB Tryd.prog 59 24 = true := by kernel_rfl
theorem sl_59 : sliceB Tryd.prog 59 48 1 = true := by kernel_rfl
theorem ze_59 : zeroAVs Tryd.prog 59 = some ([.nil]) := by kernel_rfl
theorem ty_60 : tyB Tryd.prog 60 false 1 = true := by kernel_rfl
theorem by_60 : bytesB Tryd.prog 60 24 = true := by kernel_rfl
theorem sl_60 : sliceB Tryd.prog 60 4 1 = true := by kernel_rfl
theorem ze_60 : zeroAVs Tryd.prog 60 = some ([.nil]) := by kernel_rfl
theorem ty_61 : tyB Tryd.prog 61 true 258 = true := by kernel_rfl
theorem by_61 : bytesB Tryd.prog 61 304 = true := by kernel_rfl
theorem fa_61_0 : fieldB Tryd.prog 61 0 0 = true := by kernel_rfl
theorem fv_61_0 : fieldV Tryd.prog 61 0 0 true 256 = true := by kernel_rfl
theorem fa_61_1 : fieldB Tryd.prog 61 1 256 = true := by kernel_rfl
theorem fv_61_1 : fieldV Tryd.prog 61 1 256 false 1 = true := by kernel_rfl
theorem fa_61_2 : fieldB Tryd.prog 61 2 257 = true := by kernel_rfl
theorem fv_61_2 : fieldV Tryd.prog 61 2 257 false 1 = true := by kernel_rfl
theorem pl_61 : placesOf Tryd.prog 61 = some [(0, 256), (256, 1), (257, 1)] := by kernel_rfl
theorem ze_61 : zeroAVs Tryd.prog 61 = some (List.replicate 256 (.int .u8 0) ++ [.nil, .nil]) := by kernel_rfl
theorem ty_62 : tyB Tryd.prog 62 true 258 = true := by kernel_rfl
theorem by_62 : bytesB Tryd.prog 62 304 = true := by kernel_rfl
theorem fa_62_0 : fieldB Tryd.prog 62 0 0 = true := by kernel_rfl
theorem fv_62_0 : fieldV Tryd.prog 62 0 0 true 256 = true := by kernel_rfl
theorem fa_62_1 : fieldB Tryd.prog 62 1 256 = true := by kernel_rfl
theorem fv_62_1 : fieldV Tryd.prog 62 1 256 false 1 = true := by kernel_rfl
theorem fa_62_2 : fieldB Tryd.prog 62 2 257 = true := by kernel_rfl
theorem fv_62_2 : fieldV Tryd.prog 62 2 257 false 1 = true := by kernel_rfl
theorem pl_62 : placesOf Tryd.prog 62 = some [(0, 256), (256, 1), (257, 1)] := by kernel_rfl
theorem ze_62 : zeroAVs Tryd.prog 62 = some (List.replicate 256 (.int .u8 0) ++ [.nil, .nil]) := by kernel_rfl
theorem ty_64 : tyB Tryd.prog 64 false 1 = true := by kernel_rfl
theorem by_64 : bytesB Tryd.prog 64 8 = true := by kernel_rfl
theorem ze_64 : zeroAVs Tryd.prog 64 = some ([.raw .nilFunc]) := by kernel_rfl
theorem ty_66 : tyB Tryd.prog 66 false 1 = true := by kernel_rfl
theorem by_66 : bytesB Tryd.prog 66 8 = true := by kernel_rfl
theorem ze_66 : zeroAVs Tryd.prog 66 = some ([.raw .nilFunc]) := by kernel_rfl
theorem ty_67 : tyB Tryd.prog 67 false 1 = true := by kernel_rfl
theorem by_67 : bytesB Tryd.prog 67 8 = true := by kernel_rfl
theorem ze_67 : zeroAVs Tryd.prog 67 = some ([.raw .nilFunc]) := by kernel_rfl
theorem ty_68 : tyB Tryd.prog 68 false 1 = true := by kernel_rfl
theorem by_68 : bytesB Tryd.prog 68 8 = true := by kernel_rfl
theorem ze_68 : zeroAVs Tryd.prog 68 = some ([.raw .nilFunc]) := by kernel_rfl
theorem ty_69 : tyB Tryd.prog 69 false 1 = true := by kernel_rfl
theorem by_69 : bytesB Tryd.prog 69 8 = true := by kernel_rfl
theorem ze_69 : zeroAVs Tryd.prog 69 = some ([.raw .nilFunc]) := by kernel_rfl
theorem ty_70 : tyB Tryd.prog 70 false 1 = true := by kernel_rfl
theorem by_70 : bytesB Tryd.prog 70 8 = true := by kernel_rfl
theorem ze_70 : zeroAVs Tryd.prog 70 = some ([.raw .nilFunc]) := by kernel_rfl
theorem ty_71 : tyB Tryd.prog 71 false 1 = true := by kernel_rfl
theorem by_71 : bytesB Tryd.prog 71 8 = true := by kernel_rfl
theorem ze_71 : zeroAVs Tryd.prog 71 = some ([.raw .nilFunc]) := by kernel_rfl
theorem ty_72 : tyB Tryd.prog 72 false 1 = true := by kernel_rfl
theorem by_72 : bytesB Tryd.prog 72 8 = true := by kernel_rfl
theorem ze_72 : zeroAVs Tryd.prog 72 = some ([.raw .nilFunc]) := by kernel_rfl
theorem ty_73 : tyB Tryd.prog 73 false 1 = true := by kernel_rfl
theorem by_73 : bytesB Tryd.prog 73 8 = true := by kernel_rfl
theorem ze_73 : zeroAVs Tryd.prog 73 = some ([.raw .nilFunc]) := by kernel_rfl
theorem ty_74 : tyB Tryd.prog 74 true 6 = true := by kernel_rfl
theorem by_74 : bytesB Tryd.prog 74 64 = true := by kernel_rfl
theorem fa_74_0 : fieldB Tryd.prog 74 0 0 = true := by kernel_rfl
theorem fv_74_0 : fieldV Tryd.prog 74 0 0 true 4 = true := by kernel_rfl
theorem fa_74_1 : fieldB Tryd.prog 74 1 4 = true := by kernel_rfl
theorem fv_74_1 : fieldV Tryd.prog 74 1 4 false 1 = true := by kernel_rfl
theorem fa_74_2 : fieldB Tryd.prog 74 2 5 = true := by kernel_rfl
theorem fv_74_2 : fieldV Tryd.prog 74 2 5 false 1 = true := by kernel_rfl
theorem pl_74 : placesOf Tryd.prog 74 = some [(0, 4), (4, 1), (5, 1)] := by kernel_rfl
theorem ze_74 : zeroAVs Tryd.prog 74 = some ([.int .u64 0, .int .u64 0, .int .u64 0, .int .u64 0, .int .i64 0, .nil]) := by kernel_rfl
theorem ty_75 : tyB Tryd.prog 75 true 6 = true := by kernel_rfl
theorem by_75 : bytesB Tryd.prog 75 64 = true := by kernel_rfl
theorem fa_75_0 : fieldB Tryd.prog 75 0 0 = true := by kernel_rfl
theorem fv_75_0 : fieldV Tryd.prog 75 0 0 true 4 = true := by kernel_rfl
theorem fa_75_1 : fieldB Tryd.prog 75 1 4 = true := by kernel_rfl
theorem fv_75_1 : fieldV Tryd.prog 75 1 4 false 1 = true := by kernel_rfl
theorem fa_75_2 : fieldB Tryd.prog 75 2 5 = true := by kernel_rfl
theorem fv_75_2 : fieldV Tryd.prog 75 2 5 false 1 = true := by kernel_rfl
theorem pl_75 : placesOf Tryd.prog 75 = some [(0, 4), (4, 1), (5, 1)] := by kernel_rfl
theorem ze_75 : zeroAVs Tryd.prog 75 = some ([.int .u64 0, .int .u64 0, .int .u64 0, .int .u64 0, .int .i64 0, .nil]) := by kernel_rfl
theorem ty_76 : tyB Tryd.prog 76 false 1 = true := by kernel_rfl
theorem by_76 : bytesB Tryd.prog 76 8 = true := by kernel_rfl
theorem ze_76 : zeroAVs Tryd.prog 76 = some ([.raw .nilFunc]) := by kernel_rfl
theorem ty_77 : tyB Tryd.prog 77 false 1 = true := by kernel_rfl
theorem by_77 : bytesB Tryd.prog 77 8 = true := by kernel_rfl
theorem ze_77 : zeroAVs Tryd.prog 77 = some ([.raw .nilFunc]) := by kernel_rfl
theorem ty_78 : tyB Tryd.prog 78 false 1 = true := by kernel_rfl
theorem by_78 : bytesB Tryd.prog 78 8 = true := by kernel_rfl
theorem ze_78 : zeroAVs Tryd.prog 78 = some ([.raw .nilFunc]) := by kernel_rfl
theorem ty_79 : tyB Tryd.prog 79 false 1 = true := by kernel_rfl
theorem by_79 : bytesB Tryd.prog 79 8 = true := by kernel_rfl
theorem ze_79 : zeroAVs Tryd.prog 79 = some ([.raw .nilFunc]) := by kernel_rfl
theorem ty_80 : tyB Tryd.prog 80 false 1 = true := by kernel_rfl
theorem by_80 : bytesB Tryd.prog 80 8 = true := by kernel_rfl
theorem ze_80 : zeroAVs Tryd.prog 80 = some ([.raw .nilFunc]) := by kernel_rfl
theorem ty_81 : tyB Tryd.prog 81 false 1 = true := by kernel_rfl
theorem by_81 : bytesB Tryd.prog 81 8 = true := by kernel_rfl
theorem ze_81 : zeroAVs Tryd.prog 81 = some ([.raw .nilFunc]) := by kernel_rfl
theorem ty_82 : tyB Tryd.prog 82 false 1 = true := by kernel_rfl
theorem by_82 : bytesB Tryd.prog 82 24 = true := by kernel_rfl
theorem sl_82 : sliceB Tryd.prog 82 22 1 = true := by kernel_rfl
theorem ze_82 : zeroAVs Tryd.prog 82 = some ([.nil]) := by kernel_rfl
theorem ty_83 : tyB Tryd.prog 83 false 1 = true := by kernel_rfl
theorem by_83 : bytesB Tryd.prog 83 8 = true := by kernel_rfl
theorem ze_83 : zeroAVs Tryd.prog 83 = some ([.raw .nilFunc]) := by kernel_rfl
theorem ty_84 : tyB Tryd.prog 84 false 1 = true := by kernel_rfl
theorem by_84 : bytesB Tryd.prog 84 8 = true := by kernel_rfl
theorem ze_84 : zeroAVs Tryd.prog 84 = some ([.raw .nilFunc]) := by kernel_rfl
theorem ty_85 : tyB Tryd.prog 85 false 1 = true := by kernel_rfl
theorem by_85 : bytesB Tryd.prog 85 8 = true := by kernel_rfl
theorem ze_85 : zeroAVs Tryd.prog 85 = some ([.raw .nilFunc]) := by kernel_rfl
theorem ty_86 : tyB Tryd.prog 86 false 1 = true := by kernel_rfl
theorem by_86 : bytesB Tryd.prog 86 8 = true := by kernel_rfl
theorem ze_86 : zeroAVs Tryd.prog 86 = some ([.raw .nilFunc]) := by kernel_rfl
theorem ty_87 : tyB Tryd.prog 87 false 1 = true := by kernel_rfl
theorem by_87 : bytesB Tryd.prog 87 8 = true := by kernel_rfl
theorem ze_87 : zeroAVs Tryd.prog 87 = some ([.raw .nilFunc]) := by kernel_rfl
theorem ty_88 : tyB Tryd.prog 88 true 2 = true := by kernel_rfl
theorem by_88 : bytesB Tryd.prog 88 32 = true := by kernel_rfl
theorem fa_88_0 : fieldB Tryd.prog 88 0 0 = true := by kernel_rfl
theorem fv_88_0 : fieldV Tryd.prog 88 0 0 false 1 = true := by kernel_rfl
theorem fa_88_1 : fieldB Tryd.prog 88 1 1 = true := by kernel_rfl
theorem fv_88_1 : fieldV Tryd.prog 88 1 1 false 1 = true := by kernel_rfl
theorem pl_88 : placesOf Tryd.prog 88 = some [(0, 1), (1, 1)] := by kernel_rfl
theorem ze_88 : zeroAVs Tryd.prog 88 = some ([.nil, .int .i64 0]) := by kernel_rfl
theorem ty_89 : tyB Tryd.prog 89 true 2 = true := by kernel_rfl
theorem by_89 : bytesB Tryd.prog 89 32 = true := by kernel_rfl
theorem fa_89_0 : fieldB Tryd.prog 89 0 0 = true := by kernel_rfl
theorem fv_89_0 : fieldV Tryd.prog 89 0 0 false 1 = true := by kernel_rfl
theorem fa_89_1 : fieldB Tryd.prog 89 1 1 = true := by kernel_rfl
theorem fv_89_1 : fieldV Tryd.prog 89 1 1 false 1 = true := by kernel_rfl
theorem pl_89 : placesOf Tryd.prog 89 = some [(0, 1), (1, 1)] := by kernel_rfl
theorem ze_89 : zeroAVs Tryd.prog 89 = some ([.nil, .int .i64 0]) := by kernel_rfl
theorem ty_90 : tyB Tryd.prog 90 false 1 = true := by kernel_rfl
theorem by_90 : bytesB Tryd.prog 90 8 = true := by kernel_rfl
theorem ze_90 : zeroAVs Tryd.prog 90 = some ([.raw .nilFunc]) := by kernel_rfl
theorem ty_91 : tyB Tryd.prog 91 false 1 = true := by kernel_rfl
theorem by_91 : bytesB Tryd.prog 91 8 = true := by kernel_rfl
theorem ze_91 : zeroAVs Tryd.prog 91 = some ([.raw .nilFunc]) := by kernel_rfl
theorem ty_92 : tyB Tryd.prog 92 false 1 = true := by kernel_rfl
theorem by_92 : bytesB Tryd.prog 92 8 = true := by kernel_rfl
theorem ze_92 : zeroAVs Tryd.prog 92 = some ([.raw (.pointer none)]) := by kernel_rfl
theorem ty_93 : tyB Tryd.prog 93 true 1 = true := by kernel_rfl
theorem by_93 : bytesB Tryd.prog 93 24 = true := by kernel_rfl
theorem fa_93_0 : fieldB Tryd.prog 93 0 0 = true := by kernel_rfl
theorem fv_93_0 : fieldV Tryd.prog 93 0 0 false 1 = true := by kernel_rfl
theorem pl_93 : placesOf Tryd.prog 93 = some [(0, 1)] := by kernel_rfl
theorem ze_93 : zeroAVs Tryd.prog 93 = some ([.nil]) := by kernel_rfl
theorem ty_94 : tyB Tryd.prog 94 true 1 = true := by kernel_rfl
theorem by_94 : bytesB Tryd.prog 94 24 = true := by kernel_rfl
theorem fa_94_0 : fieldB Tryd.prog 94 0 0 = true := by kernel_rfl
theorem fv_94_0 : fieldV Tryd.prog 94 0 0 false 1 = true := by kernel_rfl
theorem pl_94 : placesOf Tryd.prog 94 = some [(0, 1)] := by kernel_rfl
theorem ze_94 : zeroAVs Tryd.prog 94 = some ([.nil]) := by kernel_rfl
theorem ty_96 : tyB Tryd.prog 96 false 1 = true := by kernel_rfl
theorem by_96 : bytesB Tryd.prog 96 8 = true := by kernel_rfl
theorem ze_96 : zeroAVs Tryd.prog 96 = some ([.raw .nilFunc]) := by kernel_rfl
theorem ty_97 : tyB Tryd.prog 97 false 1 = true := by kernel_rfl
theorem by_97 : bytesB Tryd.prog 97 8 = true := by kernel_rfl
theorem ze_97 : zeroAVs Tryd.prog 97 = some ([.raw .nilFunc]) := by kernel_rfl
theorem ty_98 : tyB Tryd.prog 98 false 1 = true := by kernel_rfl
theorem by_98 : bytesB Tryd.prog 98 8 = true := by kernel_rfl
theorem ze_98 : zeroAVs Tryd.prog 98 = some ([.raw .nilFunc]) := by kernel_rfl
theorem ty_99 : tyB Tryd.prog 99 false 1 = true := by kernel_rfl
theorem by_99 : bytesB Tryd.prog 99 8 = true := by kernel_rfl
theorem ze_99 : zeroAVs Tryd.prog 99 = some ([.raw .nilFunc]) := by kernel_rfl
theorem ty_100 : tyB Tryd.prog 100 false 1 = true := by kernel_rfl
theorem by_100 : bytesB Tryd.prog 100 24 = true := by kernel_rfl
theorem sl_100 : sliceB Tryd.prog 100 60 1 = true := by kernel_rfl
theorem ze_100 : zeroAVs Tryd.prog 100 = some ([.nil]) := by kernel_rfl
theorem ty_101 : tyB Tryd.prog 101 false 1 = true := by kernel_rfl
theorem by_101 : bytesB Tryd.prog 101 8 = true := by kernel_rfl
theorem ze_101 : zeroAVs Tryd.prog 101 = some ([.raw .nilFunc]) := by kernel_rfl
theorem ty_102 : tyB Tryd.prog 102 false 1 = true := by kernel_rfl
theorem by_102 : bytesB Tryd.prog 102 8 = true := by kernel_rfl
theorem ze_102 : zeroAVs Tryd.prog 102 = some ([.raw .nilFunc]) := by kernel_rfl
theorem ty_103 : tyB Tryd.prog 103 false 1 = true := by kernel_rfl
theorem by_103 : bytesB Tryd.prog 103 8 = true := by kernel_rfl
theorem ze_103 : zeroAVs Tryd.prog 103 = some ([.raw .nilFunc]) := by kernel_rfl
theorem ty_104 : tyB Tryd.prog 104 false 1 = true := by kernel_rfl
theorem by_104 : bytesB Tryd.prog 104 8 = true := by kernel_rfl
theorem ze_104 : zeroAVs Tryd.prog 104 = some ([.raw .nilFunc]) := by kernel_rfl
theorem ty_105 : tyB Tryd.prog 105 false 1 = true := by kernel_rfl
theorem by_105 : bytesB Tryd.prog 105 8 = true := by kernel_rfl
theorem ze_105 : zeroAVs Tryd.prog 105 = some ([.raw .nilFunc]) := by kernel_rfl
theorem ty_106 : tyB Tryd.prog 106 false 1 = true := by kernel_rfl
theorem by_106 : bytesB Tryd.prog 106 8 = true := by kernel_rfl
theorem ze_106 : zeroAVs Tryd.prog 106 = some ([.raw (.pointer none)]) := by kernel_rfl
theorem ty_107 : tyB Tryd.prog 107 false 1 = true := by kernel_rfl
theorem by_107 : bytesB Tryd.prog 107 8 = true := by kernel_rfl
theorem ze_107 : zeroAVs Tryd.prog 107 = some ([.raw (.map none)]) := by kernel_rfl
theorem ty_108 : tyB Tryd.prog 108 true 2 = true := by kernel_rfl
theorem by_108 : bytesB Tryd.prog 108 32 = true := by kernel_rfl
theorem fa_108_0 : fieldB Tryd.prog 108 0 0 = true := by kernel_rfl
theorem fv_108_0 : fieldV Tryd.prog 108 0 0 false 1 = true := by kernel_rfl
theorem fa_108_1 : fieldB Tryd.prog 108 1 1 = true := by kernel_rfl
theorem fv_108_1 : fieldV Tryd.prog 108 1 1 false 1 = true := by kernel_rfl
theorem pl_108 : placesOf Tryd.prog 108 = some [(0, 1), (1, 1)] := by kernel_rfl
theorem ze_108 : zeroAVs Tryd.prog 108 = some ([.nil, .raw (.map none)]) := by kernel_rfl
theorem ty_109 : tyB Tryd.prog 109 true 2 = true := by kernel_rfl
theorem by_109 : bytesB Tryd.prog 109 32 = true := by kernel_rfl
theorem fa_109_0 : fieldB Tryd.prog 109 0 0 = true := by kernel_rfl
theorem fv_109_0 : fieldV Tryd.prog 109 0 0 false 1 = true := by kernel_rfl
theorem fa_109_1 : fieldB Tryd.prog 109 1 1 = true := by kernel_rfl
theorem fv_109_1 : fieldV Tryd.prog 109 1 1 false 1 = true := by kernel_rfl
theorem pl_109 : placesOf Tryd.prog 109 = some [(0, 1), (1, 1)] := by kernel_rfl
theorem ze_109 : zeroAVs Tryd.prog 109 = some ([.nil, .raw (.map none)]) := by kernel_rfl
theorem ty_110 : tyB Tryd.prog 110 false 1 = true := by kernel_rfl
theorem by_110 : bytesB Tryd.prog 110 8 = true := by kernel_rfl
theorem ze_110 : zeroAVs Tryd.prog 110 = some ([.raw .nilFunc]) := by kernel_rfl
theorem ty_111 : tyB Tryd.prog 111 false 1 = true := by kernel_rfl
theorem by_111 : bytesB Tryd.prog 111 8 = true := by kernel_rfl
theorem ze_111 : zeroAVs Tryd.prog 111 = some ([.raw .nilFunc]) := by kernel_rfl
theorem ty_112 : tyB Tryd.prog 112 false 1 = true := by kernel_rfl
theorem by_112 : bytesB Tryd.prog 112 8 = true := by kernel_rfl
theorem ze_112 : zeroAVs Tryd.prog 112 = some ([.raw .nilFunc]) := by kernel_rfl
theorem ty_113 : tyB Tryd.prog 113 false 1 = true := by kernel_rfl
theorem by_113 : bytesB Tryd.prog 113 24 = true := by kernel_rfl
theorem sl_113 : sliceB Tryd.prog 113 26 4 = true := by kernel_rfl
theorem ze_113 : zeroAVs Tryd.prog 113 = some ([.nil]) := by kernel_rfl
theorem ty_114 : tyB Tryd.prog 114 false 1 = true := by kernel_rfl
theorem by_114 : bytesB Tryd.prog 114 8 = true := by kernel_rfl
theorem ze_114 : zeroAVs Tryd.prog 114 = some ([.raw .nilFunc]) := by kernel_rfl
theorem ty_115 : tyB Tryd.prog 115 false 1 = true := by kernel_rfl
theorem by_115 : bytesB Tryd.prog 115 8 = true := by kernel_rfl
theorem ze_115 : zeroAVs Tryd.prog 115 = some ([.raw .nilFunc]) := by kernel_rfl
theorem ty_116 : tyB Tryd.prog 116 false 1 = true := by kernel_rfl
theorem by_116 : bytesB Tryd.prog 116 8 = true := by kernel_rfl
theorem ze_116 : zeroAVs Tryd.prog 116 = some ([.raw .nilFunc]) := by kernel_rfl
theorem ty_117 : tyB Tryd.prog 117 false 1 = true := by kernel_rfl
theorem by_117 : bytesB Tryd.prog 117 8 = true := by kernel_rfl
theorem ze_117 : zeroAVs Tryd.prog 117 = some ([.raw .nilFunc]) := by kernel_rfl
theorem ty_118 : tyB Tryd.prog 118 false 1 = true := by kernel_rfl
theorem by_118 : bytesB Tryd.prog 118 8 = true := by kernel_rfl
theorem ze_118 : zeroAVs Tryd.prog 118 = some ([.raw .nilFunc]) := by kernel_rfl
theorem ty_119 : tyB Tryd.prog 119 false 1 = true := by kernel_rfl
theorem by_119 : bytesB Tryd.prog 119 8 = true := by kernel_rfl
theorem ze_119 : zeroAVs Tryd.prog 119 = some ([.raw .nilFunc]) := by kernel_rfl
theorem ty_120 : tyB Tryd.prog 120 false 1 = true := by kernel_rfl
theorem by_120 : bytesB Tryd.prog 120 8 = true := by kernel_rfl
theorem ze_120 : zeroAVs Tryd.prog 120 = some ([.raw .nilFunc]) := by kernel_rfl
theorem ty_121 : tyB Tryd.prog 121 false 1 = true := by kernel_rfl
theorem by_121 : bytesB Tryd.prog 121 8 = true := by kernel_rfl
theorem ze_121 : zeroAVs Tryd.prog 121 = some ([.raw .nilFunc]) := by kernel_rfl
theorem ty_122 : tyB Tryd.prog 122 false 1 = true := by kernel_rfl
theorem by_122 : bytesB Tryd.prog 122 8 = true := by kernel_rfl
theorem ze_122 : zeroAVs Tryd.prog 122 = some ([.raw .nilFunc]) := by kernel_rfl
theorem ty_123 : tyB Tryd.prog 123 false 1 = true := by kernel_rfl
theorem by_123 : bytesB Tryd.prog 123 8 = true := by kernel_rfl
theorem ze_123 : zeroAVs Tryd.prog 123 = some ([.raw .nilFunc]) := by kernel_rfl
theorem ty_124 : tyB Tryd.prog 124 false 1 = true := by kernel_rfl
theorem by_124 : bytesB Tryd.prog 124 8 = true := by kernel_rfl
theorem ze_124 : zeroAVs Tryd.prog 124 = some ([.raw .nilFunc]) := by kernel_rfl
theorem ty_125 : tyB Tryd.prog 125 false 1 = true := by kernel_rfl
theorem by_125 : bytesB Tryd.prog 125 8 = true := by kernel_rfl
theorem ze_125 : zeroAVs Tryd.prog 125 = some ([.raw .nilFunc]) := by kernel_rfl
theorem ty_126 : tyB Tryd.prog 126 false 1 = true := by kernel_rfl
theorem by_126 : bytesB Tryd.prog 126 8 = true := by kernel_rfl
theorem ze_126 : zeroAVs Tryd.prog 126 = some ([.raw .nilFunc]) := by kernel_rfl
theorem ty_127 : tyB Tryd.prog 127 false 1 = true := by kernel_rfl
theorem by_127 : bytesB Tryd.prog 127 8 = true := by kernel_rfl
theorem ze_127 : zeroAVs Tryd.prog 127 = some ([.raw .nilFunc]) := by kernel_rfl
theorem ty_128 : tyB Tryd.prog 128 false 1 = true := by kernel_rfl
theorem by_128 : bytesB Tryd.prog 128 8 = true := by kernel_rfl
theorem ze_128 : zeroAVs Tryd.prog 128 = some ([.raw .nilFunc]) := by kernel_rfl
theorem ty_129 : tyB Tryd.prog 129 false 1 = true := by kernel_rfl
theorem by_129 : bytesB Tryd.prog 129 8 = true := by kernel_rfl
theorem ze_129 : zeroAVs Tryd.prog 129 = some ([.raw .nilFunc]) := by kernel_rfl
theorem ty_130 : tyB Tryd.prog 130 false 1 = true := by kernel_rfl
theorem by_130 : bytesB Tryd.prog 130 8 = true := by kernel_rfl
theorem ze_130 : zeroAVs Tryd.prog 130 = some ([.raw .nilFunc]) := by kernel_rfl
theorem ty_131 : tyB Tryd.prog 131 false 1 = true := by kernel_rfl
theorem by_131 : bytesB Tryd.prog 131 8 = true := by kernel_rfl
theorem ze_131 : zeroAVs Tryd.prog 131 = some ([.raw .nilFunc]) := by kernel_rfl
theorem ty_133 : tyB Tryd.prog 133 false 1 = true := by kernel_rfl
theorem by_133 : bytesB Tryd.prog 133 8 = true := by kernel_rfl
theorem ze_133 : zeroAVs Tryd.prog 133 = some ([.raw .nilFunc]) := by kernel_rfl
theorem ty_134 : tyB Tryd.prog 134 false 1 = true := by kernel_rfl
theorem by_134 : bytesB Tryd.prog 134 8 = true := by kernel_rfl
theorem ze_134 : zeroAVs Tryd.prog 134 = some ([.raw .nilFunc]) := by kernel_rfl
theorem ty_135 : tyB Tryd.prog 135 false 1 = true := by kernel_rfl
theorem by_135 : bytesB Tryd.prog 135 8 = true := by kernel_rfl
theorem ze_135 : zeroAVs Tryd.prog 135 = some ([.raw .nilFunc]) := by kernel_rfl
theorem ty_136 : tyB Tryd.prog 136 false 1 = true := by kernel_rfl
theorem by_136 : bytesB Tryd.prog 136 8 = true := by kernel_rfl
theorem ze_136 : zeroAVs Tryd.prog 136 = some ([.raw .nilFunc]) := by kernel_rfl
theorem ty_137 : tyB Tryd.prog 137 false 1 = true := by kernel_rfl
theorem by_137 : bytesB Tryd.prog 137 8 = true := by kernel_rfl
theorem ze_137 : zeroAVs Tryd.prog 137 = some ([.raw .nilFunc]) := by kernel_rfl
theorem ty_138 : tyB Tryd.prog 138 false 1 = true := by kernel_rfl
theorem by_138 : bytesB Tryd.prog 138 8 = true := by kernel_rfl
theorem ze_138 : zeroAVs Tryd.prog 138 = some ([.raw .nilFunc]) := by kernel_rfl
theorem ty_139 : tyB Tryd.prog 139 false 1 = true := by kernel_rfl
theorem by_139 : bytesB Tryd.prog 139 8 = true := by kernel_rfl
theorem ze_139 : zeroAVs Tryd.prog 139 = some ([.raw .nilFunc]) := by kernel_rfl
theorem ty_140 : tyB Tryd.prog 140 false 1 = true := by kernel_rfl
theorem by_140 : bytesB Tryd.prog 140 8 = true := by kernel_rfl
theorem ze_140 : zeroAVs Tryd.prog 140 = some ([.raw .nilFunc]) := by kernel_rfl
theorem ty_141 : tyB Tryd.prog 141 false 1 = true := by kernel_rfl
theorem by_141 : bytesB Tryd.prog 141 8 = true := by kernel_rfl
theorem ze_141 : zeroAVs Tryd.prog 141 = some ([.raw .nilFunc]) := by kernel_rfl
theorem ty_142 : tyB Tryd.prog 142 false 1 = true := by kernel_rfl
theorem by_142 : bytesB Tryd.prog 142 8 = true := by kernel_rfl
theorem ze_142 : zeroAVs Tryd.prog 142 = some ([.raw .nilFunc]) := by kernel_rfl
theorem ty_143 : tyB Tryd.prog 143 false 1 = true := by kernel_rfl
theorem by_143 : bytesB Tryd.prog 143 8 = true := by kernel_rfl
theorem ze_143 : zeroAVs Tryd.prog 143 = some ([.raw .nilFunc]) := by kernel_rfl
theorem ty_144 : tyB Tryd.prog 144 false 1 = true := by kernel_rfl
theorem by_144 : bytesB Tryd.prog 144 8 = true := by kernel_rfl
theorem ze_144 : zeroAVs Tryd.prog 144 = some ([.raw .nilFunc]) := by kernel_rfl
theorem ty_145 : tyB Tryd.prog 145 false 1 = true := by kernel_rfl
theorem by_145 : bytesB Tryd.prog 145 8 = true := by kernel_rfl
theorem ze_145 : zeroAVs Tryd.prog 145 = some ([.raw .nilFunc]) := by kernel_rfl
theorem ty_146 : tyB Tryd.prog 146 false 1 = true := by kernel_rfl
theorem by_146 : bytesB Tryd.prog 146 8 = true := by kernel_rfl
theorem ze_146 : zeroAVs Tryd.prog 146 = some ([.raw .nilFunc]) := by kernel_rfl
theorem ty_147 : tyB Tryd.prog 147 false 1 = true := by kernel_rfl
theorem by_147 : bytesB Tryd.prog 147 8 = true := by kernel_rfl
theorem in_147 : intB Tryd.prog 147 .u64 = true := by kernel_rfl
theorem ze_147 : zeroAVs Tryd.prog 147 = some ([.int .u64 0]) := by kernel_rfl
theorem ty_148 : tyB Tryd.prog 148 false 1 = true := by kernel_rfl
theorem by_148 : bytesB Tryd.prog 148 8 = true := by kernel_rfl
theorem ze_148 : zeroAVs Tryd.prog 148 = some ([.raw .nilFunc]) := by kernel_rfl
theorem ty_149 : tyB Tryd.prog 149 false 1 = true := by kernel_rfl
theorem by_149 : bytesB Tryd.prog 149 8 = true := by kernel_rfl
theorem ze_149 : zeroAVs Tryd.prog 149 = some ([.raw .nilFunc]) := by kernel_rfl
theorem ty_150 : tyB Tryd.prog 150 false 1 = true := by kernel_rfl
theorem by_150 : bytesB Tryd.prog 150 8 = true := by kernel_rfl
theorem ze_150 : zeroAVs Tryd.prog 150 = some ([.raw .nilFunc]) := by kernel_rfl
theorem ty_151 : tyB Tryd.prog 151 false 1 = true := by kernel_rfl
theorem by_151 : bytesB Tryd.prog 151 8 = true := by kernel_rfl
theorem ze_151 : zeroAVs Tryd.prog 151 = some ([.raw .nilFunc]) := by kernel_rfl
theorem ty_152 : tyB Tryd.prog 152 false 1 = true := by kernel_rfl
theorem by_152 : bytesB Tryd.prog 152 8 = true := by kernel_rfl
theorem ze_152 : zeroAVs Tryd.prog 152 = some ([.raw .nilFunc]) := by kernel_rfl
theorem ty_153 : tyB Tryd.prog 153 true 256 = true := by kernel_rfl
theorem by_153 : bytesB Tryd.prog 153 256 = true := by kernel_rfl
theorem ar_153 : arrB Tryd.prog 153 256 4 1 = true := by kernel_rfl
theorem ze_153 : zeroAVs Tryd.prog 153 = some (List.replicate 256 (.bool false)) := by kernel_rfl
theorem ty_154 : tyB Tryd.prog 154 false 1 = true := by kernel_rfl
theorem by_154 : bytesB Tryd.prog 154 8 = true := by kernel_rfl
theorem ze_154 : zeroAVs Tryd.prog 154 = some ([.raw .nilFunc]) := by kernel_rfl
theorem ty_155 : tyB Tryd.prog 155 false 1 = true := by kernel_rfl
theorem by_155 : bytesB Tryd.prog 155 8 = true := by kernel_rfl
theorem ze_155 : zeroAVs Tryd.prog 155 = some ([.raw .nilFunc]) := by kernel_rfl
theorem ty_156 : tyB Tryd.prog 156 false 1 = true := by kernel_rfl
theorem by_156 : bytesB Tryd.prog 156 8 = true := by kernel_rfl
theorem in_156 : intB Tryd.prog 156 .i64 = true := by kernel_rfl
theorem ze_156 : zeroAVs Tryd.prog 156 = some ([.int .i64 0]) := by kernel_rfl
theorem ty_158 : tyB Tryd.prog 158 false 1 = true := by kernel_rfl
theorem by_158 : bytesB Tryd.prog 158 8 = true := by kernel_rfl
theorem ze_158 : zeroAVs Tryd.prog 158 = some ([.raw .nilFunc]) := by kernel_rfl
theorem ty_159 : tyB Tryd.prog 159 false 1 = true := by kernel_rfl
theorem by_159 : bytesB Tryd.prog 159 8 = true := by kernel_rfl
theorem ze_159 : zeroAVs Tryd.prog 159 = some ([.raw .nilFunc]) := by kernel_rfl
theorem ty_160 : tyB Tryd.prog 160 false 1 = true := by kernel_rfl
theorem by_160 : bytesB Tryd.prog 160 8 = true := by kernel_rfl
theorem ze_160 : zeroAVs Tryd.prog 160 = some ([.raw .nilFunc]) := by kernel_rfl
theorem ty_161 : tyB Tryd.prog 161 false 1 = true := by kernel_rfl
theorem by_161 : bytesB Tryd.prog 161 8 = true := by kernel_rfl
theorem ze_161 : zeroAVs Tryd.prog 161 = some ([.raw .nilFunc]) := by kernel_rfl
theorem ty_162 : tyB Tryd.prog 162 false 1 = true := by kernel_rfl
theorem by_162 : bytesB Tryd.prog 162 8 = true := by kernel_rfl
theorem ze_162 : zeroAVs Tryd.prog 162 = some ([.raw .nilFunc]) := by kernel_rfl
theorem ty_163 : tyB Tryd.prog 163 false 1 = true := by kernel_rfl
theorem by_163 : bytesB Tryd.prog 163 4 = true := by kernel_rfl
theorem in_163 : intB Tryd.prog 163 .u32 = true := by kernel_rfl
theorem ze_163 : zeroAVs Tryd.prog 163 = some ([.int .u32 0]) := by kernel_rfl
theorem ty_164 : tyB Tryd.prog 164 false 1 = true := by kernel_rfl
theorem by_164 : bytesB Tryd.prog 164 8 = true := by kernel_rfl
theorem ze_164 : zeroAVs Tryd.prog 164 = some ([.raw .nilFunc]) := by kernel_rfl
theorem ty_165 : tyB Tryd.prog 165 false 1 = true := by kernel_rfl
theorem by_165 : bytesB Tryd.prog 165 8 = true := by kernel_rfl
theorem in_165 : intB Tryd.prog 165 .u64 = true := by kernel_rfl
theorem ze_165 : zeroAVs Tryd.prog 165 = some ([.int .u64 0]) := by kernel_rfl
theorem ty_166 : tyB Tryd.prog 166 false 1 = true := by kernel_rfl
theorem by_166 : bytesB Tryd.prog 166 8 = true := by kernel_rfl
theorem ze_166 : zeroAVs Tryd.prog 166 = some ([.raw .nilFunc]) := by kernel_rfl
theorem ty_167 : tyB Tryd.prog 167 false 1 = true := by kernel_rfl
theorem by_167 : bytesB Tryd.prog 167 8 = true := by kernel_rfl
theorem ze_167 : zeroAVs Tryd.prog 167 = some ([.raw .nilFunc]) := by kernel_rfl
theorem ty_168 : tyB Tryd.prog 168 false 1 = true := by kernel_rfl
theorem by_168 : bytesB Tryd.prog 168 8 = true := by kernel_rfl
theorem ze_168 : zeroAVs Tryd.prog 168 = some ([.raw .nilFunc]) := by kernel_rfl
theorem ty_169 : tyB Tryd.prog 169 false 1 = true := by kernel_rfl
theorem by_169 : bytesB Tryd.prog 169 8 = true := by kernel_rfl
theorem ze_169 : zeroAVs Tryd.prog 169 = some ([.raw (.pointer none)]) := by kernel_rfl
theorem ty_170 : tyB Tryd.prog 170 false 1 = true := by kernel_rfl
theorem by_170 : bytesB Tryd.prog 170 8 = true := by kernel_rfl
theorem ze_170 : zeroAVs Tryd.prog 170 = some ([.raw .nilFunc]) := by kernel_rfl
theorem ty_171 : tyB Tryd.prog 171 true 64 = true := by kernel_rfl
theorem by_171 : bytesB Tryd.prog 171 64 = true := by kernel_rfl
theorem ar_171 : arrB Tryd.prog 171 64 5 1 = true := by kernel_rfl
theorem ai_171 : arrI Tryd.prog 171 64 .u8 = true := by kernel_rfl
theorem ze_171 : zeroAVs Tryd.prog 171 = some (List.replicate 64 (.int .u8 0)) := by kernel_rfl
theorem ty_172 : tyB Tryd.prog 172 false 1 = true := by kernel_rfl
theorem by_172 : bytesB Tryd.prog 172 8 = true := by kernel_rfl
theorem ze_172 : zeroAVs Tryd.prog 172 = some ([.raw (.pointer none)]) := by kernel_rfl
theorem ty_173 : tyB Tryd.prog 173 false 1 = true := by kernel_rfl
theorem by_173 : bytesB Tryd.prog 173 8 = true := by kernel_rfl
theorem ze_173 : zeroAVs Tryd.prog 173 = some ([.raw .nilFunc]) := by kernel_rfl
theorem en_3 : enterB Tryd.prog 3 = true := by kernel_rfl
theorem en_4 : enterB Tryd.prog 4 = true := by kernel_rfl
theorem en_5 : enterB Tryd.prog 5 = true := by kernel_rfl
theorem en_6 : enterB Tryd.prog 6 = true := by kernel_rfl
theorem en_7 : enterB Tryd.prog 7 = true := by kernel_rfl
theorem en_8 : enterB Tryd.prog 8 = true := by kernel_rfl
theorem en_9 : enterB Tryd.prog 9 = true := by kernel_rfl
theorem en_10 : enterB Tryd.prog 10 = true := by kernel_rfl
theorem en_11 : enterB Tryd.prog 11 = true := by kernel_rfl
theorem en_12 : enterB Tryd.prog 12 = true := by kernel_rfl
theorem en_13 : enterB Tryd.prog 13 = true := by kernel_rfl
theorem en_14 : enterB Tryd.prog 14 = true := by kernel_rfl
theorem en_15 : enterB Tryd.prog 15 = true := by kernel_rfl
theorem en_16 : enterB Tryd.prog 16 = true := by kernel_rfl
theorem en_17 : enterB Tryd.prog 17 = true := by kernel_rfl
theorem en_18 : enterB Tryd.prog 18 = true := by kernel_rfl
theorem en_19 : enterB Tryd.prog 19 = true := by kernel_rfl
theorem en_20 : enterB Tryd.prog 20 = true := by kernel_rfl
theorem en_21 : enterB Tryd.prog 21 = true := by kernel_rfl
theorem en_22 : enterB Tryd.prog 22 = true := by kernel_rfl
theorem en_23 : enterB Tryd.prog 23 = true := by kernel_rfl
theorem en_24 : enterB Tryd.prog 24 = true := by kernel_rfl
theorem en_25 : enterB Tryd.prog 25 = true := by kernel_rfl
theorem en_26 : enterB Tryd.prog 26 = true := by kernel_rfl
theorem en_27 : enterB Tryd.prog 27 = true := by kernel_rfl
theorem en_28 : enterB Tryd.prog 28 = true := by kernel_rfl
theorem en_29 : enterB Tryd.prog 29 = true := by kernel_rfl
theorem en_30 : enterB Tryd.prog 30 = true := by kernel_rfl
theorem en_31 : enterB Tryd.prog 31 = true := by kernel_rfl
theorem en_32 : enterB Tryd.prog 32 = true := by kernel_rfl
theorem en_33 : enterB Tryd.prog 33 = true := by kernel_rfl
theorem en_34 : enterB Tryd.prog 34 = true := by kernel_rfl
theorem en_35 : enterB Tryd.prog 35 = true := by kernel_rfl
theorem en_36 : enterB Tryd.prog 36 = true := by kernel_rfl
theorem en_37 : enterB Tryd.prog 37 = true := by kernel_rfl
theorem en_38 : enterB Tryd.prog 38 = true := by kernel_rfl
theorem en_39 : enterB Tryd.prog 39 = true := by kernel_rfl
theorem en_40 : enterB Tryd.prog 40 = true := by kernel_rfl
theorem en_41 : enterB Tryd.prog 41 = true := by kernel_rfl
theorem en_42 : enterB Tryd.prog 42 = true := by kernel_rfl
theorem en_43 : enterB Tryd.prog 43 = true := by kernel_rfl
theorem en_44 : enterB Tryd.prog 44 = true := by kernel_rfl
theorem en_45 : enterB Tryd.prog 45 = true := by kernel_rfl
theorem en_46 : enterB Tryd.prog 46 = true := by kernel_rfl
theorem en_47 : enterB Tryd.prog 47 = true := by kernel_rfl
theorem en_48 : enterB Tryd.prog 48 = true := by kernel_rfl
theorem en_49 : enterB Tryd.prog 49 = true := by kernel_rfl
theorem en_50 : enterB Tryd.prog 50 = true := by kernel_rfl
theorem en_51 : enterB Tryd.prog 51 = true := by kernel_rfl
theorem en_52 : enterB Tryd.prog 52 = true := by kernel_rfl
theorem en_53 : enterB Tryd.prog 53 = true := by kernel_rfl
theorem en_54 : enterB Tryd.prog 54 = true := by kernel_rfl
theorem en_55 : enterB Tryd.prog 55 = true := by kernel_rfl
theorem en_56 : enterB Tryd.prog 56 = true := by kernel_rfl
theorem en_57 : enterB Tryd.prog 57 = true := by kernel_rfl
theorem en_58 : enterB Tryd.prog 58 = true := by kernel_rfl
theorem en_59 : enterB Tryd.prog 59 = true := by kernel_rfl
theorem en_60 : enterB Tryd.prog 60 = true := by kernel_rfl
theorem en_61 : enterB Tryd.prog 61 = true := by kernel_rfl
theorem en_62 : enterB Tryd.prog 62 = true := by kernel_rfl
theorem en_63 : enterB Tryd.prog 63 = true := by kernel_rfl
theorem en_64 : enterB Tryd.prog 64 = true := by kernel_rfl
theorem en_65 : enterB Tryd.prog 65 = true := by kernel_rfl
theorem en_66 : enterB Tryd.prog 66 = true := by kernel_rfl
theorem en_67 : enterB Tryd.prog 67 = true := by kernel_rfl
theorem en_68 : enterB Tryd.prog 68 = true := by kernel_rfl
theorem en_69 : enterB Tryd.prog 69 = true := by kernel_rfl
theorem en_70 : enterB Tryd.prog 70 = true := by kernel_rfl
theorem en_71 : enterB Tryd.prog 71 = true := by kernel_rfl
theorem en_72 : enterB Tryd.prog 72 = true := by kernel_rfl
theorem en_73 : enterB Tryd.prog 73 = true := by kernel_rfl
theorem en_74 : enterB Tryd.prog 74 = true := by kernel_rfl
theorem en_75 : enterB Tryd.prog 75 = true := by kernel_rfl
theorem en_76 : enterB Tryd.prog 76 = true := by kernel_rfl
theorem en_77 : enterB Tryd.prog 77 = true := by kernel_rfl
theorem en_78 : enterB Tryd.prog 78 = true := by kernel_rfl
theorem en_79 : enterB Tryd.prog 79 = true := by kernel_rfl
theorem en_80 : enterB Tryd.prog 80 = true := by kernel_rfl
theorem en_81 : enterB Tryd.prog 81 = true := by kernel_rfl
theorem en_82 : enterB Tryd.prog 82 = true := by kernel_rfl
theorem en_83 : enterB Tryd.prog 83 = true := by kernel_rfl
theorem en_84 : enterB Tryd.prog 84 = true := by kernel_rfl
theorem en_85 : enterB Tryd.prog 85 = true := by kernel_rfl
theorem en_86 : enterB Tryd.prog 86 = true := by kernel_rfl
theorem en_87 : enterB Tryd.prog 87 = true := by kernel_rfl
theorem en_88 : enterB Tryd.prog 88 = true := by kernel_rfl
theorem en_89 : enterB Tryd.prog 89 = true := by kernel_rfl
theorem en_90 : enterB Tryd.prog 90 = true := by kernel_rfl
theorem en_91 : enterB Tryd.prog 91 = true := by kernel_rfl
theorem en_92 : enterB Tryd.prog 92 = true := by kernel_rfl
theorem en_93 : enterB Tryd.prog 93 = true := by kernel_rfl
theorem en_94 : enterB Tryd.prog 94 = true := by kernel_rfl
theorem en_95 : enterB Tryd.prog 95 = true := by kernel_rfl
theorem en_96 : enterB Tryd.prog 96 = true := by kernel_rfl
theorem en_97 : enterB Tryd.prog 97 = true := by kernel_rfl
theorem en_98 : enterB Tryd.prog 98 = true := by kernel_rfl
theorem en_99 : enterB Tryd.prog 99 = true := by kernel_rfl
theorem en_100 : enterB Tryd.prog 100 = true := by kernel_rfl
theorem en_101 : enterB Tryd.prog 101 = true := by kernel_rfl
theorem en_102 : enterB Tryd.prog 102 = true := by kernel_rfl
theorem en_103 : enterB Tryd.prog 103 = true := by kernel_rfl
theorem en_104 : enterB Tryd.prog 104 = true := by kernel_rfl
theorem en_105 : enterB Tryd.prog 105 = true := by kernel_rfl
theorem en_106 : enterB Tryd.prog 106 = true := by kernel_rfl
theorem en_107 : enterB Tryd.prog 107 = true := by kernel_rfl
theorem en_108 : enterB Tryd.prog 108 = true := by kernel_rfl
theorem en_109 : enterB Tryd.prog 109 = true := by kernel_rfl
theorem en_110 : enterB Tryd.prog 110 = true := by kernel_rfl
theorem en_111 : enterB Tryd.prog 111 = true := by kernel_rfl
theorem en_112 : enterB Tryd.prog 112 = true := by kernel_rfl
theorem en_113 : enterB Tryd.prog 113 = true := by kernel_rfl
theorem en_114 : enterB Tryd.prog 114 = true := by kernel_rfl
theorem en_115 : enterB Tryd.prog 115 = true := by kernel_rfl
theorem en_116 : enterB Tryd.prog 116 = true := by kernel_rfl
theorem en_117 : enterB Tryd.prog 117 = true := by kernel_rfl
theorem en_118 : enterB Tryd.prog 118 = true := by kernel_rfl
theorem en_119 : enterB Tryd.prog 119 = true := by kernel_rfl
theorem en_120 : enterB Tryd.prog 120 = true := by kernel_rfl
theorem en_121 : enterB Tryd.prog 121 = true := by kernel_rfl
theorem en_122 : enterB Tryd.prog 122 = true := by kernel_rfl
theorem en_123 : enterB Tryd.prog 123 = true := by kernel_rfl
theorem en_124 : enterB Tryd.prog 124 = true := by kernel_rfl
theorem en_125 : enterB Tryd.prog 125 = true := by kernel_rfl
theorem en_126 : enterB Tryd.prog 126 = true := by kernel_rfl
theorem en_127 : enterB Tryd.prog 127 = true := by kernel_rfl
theorem en_128 : enterB Tryd.prog 128 = true := by kernel_rfl
theorem en_129 : enterB Tryd.prog 129 = true := by kernel_rfl
theorem en_130 : enterB Tryd.prog 130 = true := by kernel_rfl
theorem en_131 : enterB Tryd.prog 131 = true := by kernel_rfl
theorem en_132 : enterB Tryd.prog 132 = true := by kernel_rfl
theorem en_133 : enterB Tryd.prog 133 = true := by kernel_rfl
theorem en_134 : enterB Tryd.prog 134 = true := by kernel_rfl
theorem en_135 : enterB Tryd.prog 135 = true := by kernel_rfl
theorem en_136 : enterB Tryd.prog 136 = true := by kernel_rfl
theorem en_137 : enterB Tryd.prog 137 = true := by kernel_rfl
theorem en_138 : enterB Tryd.prog 138 = true := by kernel_rfl
theorem en_139 : enterB Tryd.prog 139 = true := by kernel_rfl
theorem en_140 : enterB Tryd.prog 140 = true := by kernel_rfl
theorem en_141 : enterB Tryd.prog 141 = true := by kernel_rfl
theorem en_142 : enterB Tryd.prog 142 = true := by kernel_rfl
theorem en_143 : enterB Tryd.prog 143 = true := by kernel_rfl
theorem en_144 : enterB Tryd.prog 144 = true := by kernel_rfl
theorem en_145 : enterB Tryd.prog 145 = true := by kernel_rfl
theorem en_146 : enterB Tryd.prog 146 = true := by kernel_rfl
theorem en_147 : enterB Tryd.prog 147 = true := by kernel_rfl
theorem en_148 : enterB Tryd.prog 148 = true := by kernel_rfl
theorem en_149 : enterB Tryd.prog 149 = true := by kernel_rfl
theorem en_150 : enterB Tryd.prog 150 = true := by kernel_rfl
theorem en_151 : enterB Tryd.prog 151 = true := by kernel_rfl
theorem en_152 : enterB Tryd.prog 152 = true := by kernel_rfl
theorem en_153 : enterB Tryd.prog 153 = true := by kernel_rfl
theorem en_154 : enterB Tryd.prog 154 = true := by kernel_rfl
theorem en_155 : enterB Tryd.prog 155 = true := by kernel_rfl
theorem en_156 : enterB Tryd.prog 156 = true := by kernel_rfl
theorem en_157 : enterB Tryd.prog 157 = true := by kernel_rfl
theorem en_158 : enterB Tryd.prog 158 = true := by kernel_rfl
theorem en_159 : enterB Tryd.prog 159 = true := by kernel_rfl
theorem en_160 : enterB Tryd.prog 160 = true := by kernel_rfl
theorem en_161 : enterB Tryd.prog 161 = true := by kernel_rfl
theorem en_162 : enterB Tryd.prog 162 = true := by kernel_rfl
theorem en_163 : enterB Tryd.prog 163 = true := by kernel_rfl
theorem en_164 : enterB Tryd.prog 164 = true := by kernel_rfl
theorem en_165 : enterB Tryd.prog 165 = true := by kernel_rfl
theorem en_166 : enterB Tryd.prog 166 = true := by kernel_rfl
theorem en_167 : enterB Tryd.prog 167 = true := by kernel_rfl
theorem en_168 : enterB Tryd.prog 168 = true := by kernel_rfl
theorem en_169 : enterB Tryd.prog 169 = true := by kernel_rfl
theorem en_170 : enterB Tryd.prog 170 = true := by kernel_rfl
theorem en_171 : enterB Tryd.prog 171 = true := by kernel_rfl
theorem en_172 : enterB Tryd.prog 172 = true := by kernel_rfl
theorem en_173 : enterB Tryd.prog 173 = true := by kernel_rfl
theorem en_174 : enterB Tryd.prog 174 = true := by kernel_rfl
theorem en_175 : enterB Tryd.prog 175 = true := by kernel_rfl
theorem en_176 : enterB Tryd.prog 176 = true := by kernel_rfl
theorem en_177 : enterB Tryd.prog 177 = true := by kernel_rfl
theorem mixed : Tryd.prog.follows .mixedOrders = true := by kernel_rfl
end Go.Proofs.YtfdgbghlanbddaaDoor.Av
