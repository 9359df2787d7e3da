/- Closed facts on the types and functions of this seat's program, printed by gen.py. -/
import Derived.Test.YtmajjdpioillaaaDoorSq
import Derived.Test.YtmajjdpioillaaaDoorRows
namespace Go.Proofs.YtmajjdpioillaaaDoor
namespace Ty
theorem ag_23 : aggSize Tryd.prog 23 = some 3 := by kernel_rfl
theorem ag_26 : aggSize Tryd.prog 26 = some 2 := by kernel_rfl
theorem ag_28 : aggSize Tryd.prog 28 = some 3 := by kernel_rfl
theorem ag_30 : aggSize Tryd.prog 30 = some 2 := by kernel_rfl
theorem ag_33 : aggSize Tryd.prog 33 = some 9 := by kernel_rfl
theorem ag_41 : aggSize Tryd.prog 41 = some 2 := by kernel_rfl
theorem ag_44 : aggSize Tryd.prog 44 = some 2 := by kernel_rfl
theorem ag_52 : aggSize Tryd.prog 52 = some 3 := by kernel_rfl
theorem ag_56 : aggSize Tryd.prog 56 = some 9 := by kernel_rfl
theorem ag_68 : aggSize Tryd.prog 68 = some 4 := by kernel_rfl
theorem by_28 : (Tryd.prog.info? 28).map (·.bytes) = some 24 := by kernel_rfl
theorem eg_26 : Tryd.prog.eqGuardType Tryd.prog.depth 26 = false := by kernel_rfl
theorem eg_30 : Tryd.prog.eqGuardType Tryd.prog.depth 30 = false := by kernel_rfl
theorem en_10 : entersB Tryd.prog 10 = true := by kernel_rfl
theorem en_11 : entersB Tryd.prog 11 = true := by kernel_rfl
theorem en_12 : entersB Tryd.prog 12 = true := by kernel_rfl
theorem en_13 : entersB Tryd.prog 13 = true := by kernel_rfl
theorem en_14 : entersB Tryd.prog 14 = true := by kernel_rfl
theorem en_15 : entersB Tryd.prog 15 = true := by kernel_rfl
theorem en_16 : entersB Tryd.prog 16 = true := by kernel_rfl
theorem en_19 : entersB Tryd.prog 19 = true := by kernel_rfl
theorem en_20 : entersB Tryd.prog 20 = true := by kernel_rfl
theorem en_21 : entersB Tryd.prog 21 = true := by kernel_rfl
theorem en_22 : entersB Tryd.prog 22 = true := by kernel_rfl
theorem en_23 : entersB Tryd.prog 23 = true := by kernel_rfl
theorem en_24 : entersB Tryd.prog 24 = true := by kernel_rfl
theorem en_25 : entersB Tryd.prog 25 = true := by kernel_rfl
theorem en_26 : entersB Tryd.prog 26 = true := by kernel_rfl
theorem en_27 : entersB Tryd.prog 27 = true := by kernel_rfl
theorem en_28 : entersB Tryd.prog 28 = true := by kernel_rfl
theorem en_29 : entersB Tryd.prog 29 = true := by kernel_rfl
theorem en_3 : entersB Tryd.prog 3 = true := by kernel_rfl
theorem en_30 : entersB Tryd.prog 30 = true := by kernel_rfl
theorem en_31 : entersB Tryd.prog 31 = true := by kernel_rfl
theorem en_32 : entersB Tryd.prog 32 = true := by kernel_rfl
theorem en_35 : entersB Tryd.prog 35 = true := by kernel_rfl
theorem en_36 : entersB Tryd.prog 36 = true := by kernel_rfl
theorem en_37 : entersB Tryd.prog 37 = true := by kernel_rfl
theorem en_38 : entersB Tryd.prog 38 = true := by kernel_rfl
theorem en_39 : entersB Tryd.prog 39 = true := by kernel_rfl
theorem en_4 : entersB Tryd.prog 4 = true := by kernel_rfl
theorem en_40 : entersB Tryd.prog 40 = true := by kernel_rfl
theorem en_41 : entersB Tryd.prog 41 = true := by kernel_rfl
theorem en_42 : entersB Tryd.prog 42 = true := by kernel_rfl
theorem en_43 : entersB Tryd.prog 43 = true := by kernel_rfl
theorem en_47 : entersB Tryd.prog 47 = true := by kernel_rfl
theorem en_48 : entersB Tryd.prog 48 = true := by kernel_rfl
theorem en_49 : entersB Tryd.prog 49 = true := by kernel_rfl
theorem en_5 : entersB Tryd.prog 5 = true := by kernel_rfl
theorem en_50 : entersB Tryd.prog 50 = true := by kernel_rfl
theorem en_55 : entersB Tryd.prog 55 = true := by kernel_rfl
theorem en_6 : entersB Tryd.prog 6 = true := by kernel_rfl
theorem en_7 : entersB Tryd.prog 7 = true := by kernel_rfl
theorem en_8 : entersB Tryd.prog 8 = true := by kernel_rfl
theorem en_9 : entersB Tryd.prog 9 = true := by kernel_rfl
theorem es_31 : elemSize Tryd.prog 31 = some (28, 3) := by kernel_rfl
theorem es_62 : elemSize Tryd.prog 62 = some (9, 1) := by kernel_rfl
theorem es_87 : elemSize Tryd.prog 87 = some (3, 1) := by kernel_rfl
theorem fo_23_0 : fieldOff Tryd.prog 23 0 = some 0 := by kernel_rfl
theorem fo_23_1 : fieldOff Tryd.prog 23 1 = some 1 := by kernel_rfl
theorem fo_23_2 : fieldOff Tryd.prog 23 2 = some 2 := by kernel_rfl
theorem fo_26_0 : fieldOff Tryd.prog 26 0 = some 0 := by kernel_rfl
theorem fo_26_1 : fieldOff Tryd.prog 26 1 = some 1 := by kernel_rfl
theorem fo_28_0 : fieldOff Tryd.prog 28 0 = some 0 := by kernel_rfl
theorem fo_28_1 : fieldOff Tryd.prog 28 1 = some 2 := by kernel_rfl
theorem fo_30_0 : fieldOff Tryd.prog 30 0 = some 0 := by kernel_rfl
theorem fo_30_1 : fieldOff Tryd.prog 30 1 = some 1 := by kernel_rfl
theorem fo_33_0 : fieldOff Tryd.prog 33 0 = some 0 := by kernel_rfl
theorem fo_33_1 : fieldOff Tryd.prog 33 1 = some 1 := by kernel_rfl
theorem fo_33_2 : fieldOff Tryd.prog 33 2 = some 2 := by kernel_rfl
theorem fo_33_3 : fieldOff Tryd.prog 33 3 = some 3 := by kernel_rfl
theorem fo_33_4 : fieldOff Tryd.prog 33 4 = some 6 := by kernel_rfl
theorem fo_33_5 : fieldOff Tryd.prog 33 5 = some 8 := by kernel_rfl
theorem fo_41_0 : fieldOff Tryd.prog 41 0 = some 0 := by kernel_rfl
theorem fo_41_1 : fieldOff Tryd.prog 41 1 = some 1 := by kernel_rfl
theorem fo_44_0 : fieldOff Tryd.prog 44 0 = some 0 := by kernel_rfl
theorem fo_44_1 : fieldOff Tryd.prog 44 1 = some 1 := by kernel_rfl
theorem fo_46_3 : fieldOff Tryd.prog 46 3 = some 6 := by kernel_rfl
theorem fo_46_4 : fieldOff Tryd.prog 46 4 = some 8 := by kernel_rfl
theorem fo_52_0 : fieldOff Tryd.prog 52 0 = some 0 := by kernel_rfl
theorem fo_52_1 : fieldOff Tryd.prog 52 1 = some 1 := by kernel_rfl
theorem fo_52_2 : fieldOff Tryd.prog 52 2 = some 2 := by kernel_rfl
theorem fo_56_0 : fieldOff Tryd.prog 56 0 = some 0 := by kernel_rfl
theorem fo_56_1 : fieldOff Tryd.prog 56 1 = some 1 := by kernel_rfl
theorem fo_56_2 : fieldOff Tryd.prog 56 2 = some 2 := by kernel_rfl
theorem fo_56_3 : fieldOff Tryd.prog 56 3 = some 3 := by kernel_rfl
theorem fo_56_4 : fieldOff Tryd.prog 56 4 = some 6 := by kernel_rfl
theorem fo_56_5 : fieldOff Tryd.prog 56 5 = some 8 := by kernel_rfl
theorem fo_68_0 : fieldOff Tryd.prog 68 0 = some 0 := by kernel_rfl
theorem fo_68_1 : fieldOff Tryd.prog 68 1 = some 1 := by kernel_rfl
theorem fo_68_2 : fieldOff Tryd.prog 68 2 = some 2 := by kernel_rfl
theorem fo_68_3 : fieldOff Tryd.prog 68 3 = some 3 := by kernel_rfl
theorem mx_0 : Tryd.prog.follows .mixedOrders = true := by kernel_rfl
theorem pl_2 : plainB Tryd.prog 2 = true := by kernel_rfl
theorem pl_24 : plainB Tryd.prog 24 = true := by kernel_rfl
theorem pl_3 : plainB Tryd.prog 3 = true := by kernel_rfl
theorem pl_31 : plainB Tryd.prog 31 = true := by kernel_rfl
theorem pl_39 : plainB Tryd.prog 39 = true := by kernel_rfl
theorem pl_4 : plainB Tryd.prog 4 = true := by kernel_rfl
theorem pl_42 : plainB Tryd.prog 42 = true := by kernel_rfl
theorem pl_9 : plainB Tryd.prog 9 = true := by kernel_rfl
theorem ps_23 : placesOf Tryd.prog 23 = some [(0, 1), (1, 1), (2, 1)] := by kernel_rfl
theorem ps_30 : placesOf Tryd.prog 30 = some [(0, 1), (1, 1)] := by kernel_rfl
theorem ps_46 : placesOf Tryd.prog 46 = some [(0, 1), (1, 3), (4, 2), (6, 2), (8, 2)] := by kernel_rfl
theorem ps_52 : placesOf Tryd.prog 52 = some [(0, 1), (1, 1), (2, 1)] := by kernel_rfl
theorem ps_56 : placesOf Tryd.prog 56 = some [(0, 1), (1, 1), (2, 1), (3, 3), (6, 2), (8, 1)] := by kernel_rfl
theorem sz_4 : (Tryd.prog.info? 4).map (·.size) = some 1 := by kernel_rfl
theorem sz_52 : (Tryd.prog.info? 52).map (·.size) = some 3 := by kernel_rfl
theorem sz_56 : (Tryd.prog.info? 56).map (·.size) = some 9 := by kernel_rfl
theorem sz_68 : (Tryd.prog.info? 68).map (·.size) = some 4 := by kernel_rfl
theorem zc_23 : zeroCells Tryd.prog 23 = some ([.int .i64 0, .string ⟨#[]⟩, .int .i64 0]) := by kernel_rfl
theorem zc_28 : zeroCells Tryd.prog 28 = some ([.int .i64 0, .int .u32 0, .int .i64 0]) := by kernel_rfl
theorem zc_3 : zeroCells Tryd.prog 3 = some ([.int .i64 0]) := by kernel_rfl
theorem zc_30 : zeroCells Tryd.prog 30 = some ([.int .u32 0, .int .i64 0]) := by kernel_rfl
theorem zc_46 : zeroCells Tryd.prog 46 = some ([.int .i64 0, .int .i64 0, .int .u32 0, .int .i64 0, .int .i64 0, .int .i64 0, .slice none 0 0, .slice none 0 0, .slice none 0 0, .slice none 0 0]) := by kernel_rfl
theorem zc_52 : zeroCells Tryd.prog 52 = some ([.int .i64 0, .string ⟨#[]⟩, .int .i64 0]) := by kernel_rfl
theorem zc_56 : zeroCells Tryd.prog 56 = some ([.int .i64 0, .string ⟨#[]⟩, .int .i64 0, .int .i64 0, .int .u32 0, .int .i64 0, .int .u32 0, .int .i64 0, .slice none 0 0]) := by kernel_rfl
theorem zc_68 : zeroCells Tryd.prog 68 = some ([.bool false, .bool false, .bool false, .bool false]) := by kernel_rfl
end Ty
end Go.Proofs.YtmajjdpioillaaaDoor
