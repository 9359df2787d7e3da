/- Closed facts on the types and functions of this seat's program, printed by gen.py. -/
import Derived.Test.YtdgllcmlfblelaaGreatDoorSq
import Derived.Test.YtdgllcmlfblelaaGreatDoorRows
namespace Go.Proofs.YtdgllcmlfblelaaGreatDoor
namespace Ty
theorem ag_24 : aggSize Tryz.prog 24 = some 2 := by kernel_rfl
theorem ag_26 : aggSize Tryz.prog 26 = some 3 := by kernel_rfl
theorem ag_28 : aggSize Tryz.prog 28 = some 2 := by kernel_rfl
theorem ag_31 : aggSize Tryz.prog 31 = some 9 := by kernel_rfl
theorem ag_39 : aggSize Tryz.prog 39 = some 2 := by kernel_rfl
theorem ag_42 : aggSize Tryz.prog 42 = some 2 := by kernel_rfl
theorem ag_48 : aggSize Tryz.prog 48 = some 9 := by kernel_rfl
theorem ag_55 : aggSize Tryz.prog 55 = some 2 := by kernel_rfl
theorem ag_77 : aggSize Tryz.prog 77 = some 4 := by kernel_rfl
theorem ar_106 : arrSize Tryz.prog 106 = some (9, 1) := by kernel_rfl
theorem by_26 : (Tryz.prog.info? 26).map (·.bytes) = some 24 := by kernel_rfl
theorem by_5 : (Tryz.prog.info? 5).map (·.bytes) = some 1 := by kernel_rfl
theorem eg_24 : Tryz.prog.eqGuardType Tryz.prog.depth 24 = false := by kernel_rfl
theorem eg_26 : Tryz.prog.eqGuardType Tryz.prog.depth 26 = false := by kernel_rfl
theorem eg_28 : Tryz.prog.eqGuardType Tryz.prog.depth 28 = false := by kernel_rfl
theorem eg_55 : Tryz.prog.eqGuardType Tryz.prog.depth 55 = false := by kernel_rfl
theorem en_10 : entersB Tryz.prog 10 = true := by kernel_rfl
theorem en_11 : entersB Tryz.prog 11 = true := by kernel_rfl
theorem en_12 : entersB Tryz.prog 12 = true := by kernel_rfl
theorem en_13 : entersB Tryz.prog 13 = true := by kernel_rfl
theorem en_14 : entersB Tryz.prog 14 = true := by kernel_rfl
theorem en_15 : entersB Tryz.prog 15 = true := by kernel_rfl
theorem en_16 : entersB Tryz.prog 16 = true := by kernel_rfl
theorem en_17 : entersB Tryz.prog 17 = true := by kernel_rfl
theorem en_18 : entersB Tryz.prog 18 = true := by kernel_rfl
theorem en_19 : entersB Tryz.prog 19 = true := by kernel_rfl
theorem en_20 : entersB Tryz.prog 20 = true := by kernel_rfl
theorem en_21 : entersB Tryz.prog 21 = true := by kernel_rfl
theorem en_22 : entersB Tryz.prog 22 = true := by kernel_rfl
theorem en_23 : entersB Tryz.prog 23 = true := by kernel_rfl
theorem en_24 : entersB Tryz.prog 24 = true := by kernel_rfl
theorem en_25 : entersB Tryz.prog 25 = true := by kernel_rfl
theorem en_26 : entersB Tryz.prog 26 = true := by kernel_rfl
theorem en_27 : entersB Tryz.prog 27 = true := by kernel_rfl
theorem en_28 : entersB Tryz.prog 28 = true := by kernel_rfl
theorem en_29 : entersB Tryz.prog 29 = true := by kernel_rfl
theorem en_3 : entersB Tryz.prog 3 = true := by kernel_rfl
theorem en_30 : entersB Tryz.prog 30 = true := by kernel_rfl
theorem en_31 : entersB Tryz.prog 31 = true := by kernel_rfl
theorem en_32 : entersB Tryz.prog 32 = true := by kernel_rfl
theorem en_33 : entersB Tryz.prog 33 = true := by kernel_rfl
theorem en_34 : entersB Tryz.prog 34 = true := by kernel_rfl
theorem en_35 : entersB Tryz.prog 35 = true := by kernel_rfl
theorem en_36 : entersB Tryz.prog 36 = true := by kernel_rfl
theorem en_37 : entersB Tryz.prog 37 = true := by kernel_rfl
theorem en_38 : entersB Tryz.prog 38 = true := by kernel_rfl
theorem en_39 : entersB Tryz.prog 39 = true := by kernel_rfl
theorem en_4 : entersB Tryz.prog 4 = true := by kernel_rfl
theorem en_40 : entersB Tryz.prog 40 = true := by kernel_rfl
theorem en_41 : entersB Tryz.prog 41 = true := by kernel_rfl
theorem en_42 : entersB Tryz.prog 42 = true := by kernel_rfl
theorem en_43 : entersB Tryz.prog 43 = true := by kernel_rfl
theorem en_44 : entersB Tryz.prog 44 = true := by kernel_rfl
theorem en_45 : entersB Tryz.prog 45 = true := by kernel_rfl
theorem en_47 : entersB Tryz.prog 47 = true := by kernel_rfl
theorem en_48 : entersB Tryz.prog 48 = true := by kernel_rfl
theorem en_49 : entersB Tryz.prog 49 = true := by kernel_rfl
theorem en_5 : entersB Tryz.prog 5 = true := by kernel_rfl
theorem en_50 : entersB Tryz.prog 50 = true := by kernel_rfl
theorem en_51 : entersB Tryz.prog 51 = true := by kernel_rfl
theorem en_52 : entersB Tryz.prog 52 = true := by kernel_rfl
theorem en_53 : entersB Tryz.prog 53 = true := by kernel_rfl
theorem en_54 : entersB Tryz.prog 54 = true := by kernel_rfl
theorem en_55 : entersB Tryz.prog 55 = true := by kernel_rfl
theorem en_56 : entersB Tryz.prog 56 = true := by kernel_rfl
theorem en_57 : entersB Tryz.prog 57 = true := by kernel_rfl
theorem en_58 : entersB Tryz.prog 58 = true := by kernel_rfl
theorem en_59 : entersB Tryz.prog 59 = true := by kernel_rfl
theorem en_6 : entersB Tryz.prog 6 = true := by kernel_rfl
theorem en_60 : entersB Tryz.prog 60 = true := by kernel_rfl
theorem en_61 : entersB Tryz.prog 61 = true := by kernel_rfl
theorem en_62 : entersB Tryz.prog 62 = true := by kernel_rfl
theorem en_63 : entersB Tryz.prog 63 = true := by kernel_rfl
theorem en_64 : entersB Tryz.prog 64 = true := by kernel_rfl
theorem en_65 : entersB Tryz.prog 65 = true := by kernel_rfl
theorem en_66 : entersB Tryz.prog 66 = true := by kernel_rfl
theorem en_7 : entersB Tryz.prog 7 = true := by kernel_rfl
theorem en_71 : entersB Tryz.prog 71 = true := by kernel_rfl
theorem en_72 : entersB Tryz.prog 72 = true := by kernel_rfl
theorem en_73 : entersB Tryz.prog 73 = true := by kernel_rfl
theorem en_74 : entersB Tryz.prog 74 = true := by kernel_rfl
theorem en_75 : entersB Tryz.prog 75 = true := by kernel_rfl
theorem en_76 : entersB Tryz.prog 76 = true := by kernel_rfl
theorem en_77 : entersB Tryz.prog 77 = true := by kernel_rfl
theorem en_78 : entersB Tryz.prog 78 = true := by kernel_rfl
theorem en_79 : entersB Tryz.prog 79 = true := by kernel_rfl
theorem en_8 : entersB Tryz.prog 8 = true := by kernel_rfl
theorem en_80 : entersB Tryz.prog 80 = true := by kernel_rfl
theorem en_81 : entersB Tryz.prog 81 = true := by kernel_rfl
theorem en_82 : entersB Tryz.prog 82 = true := by kernel_rfl
theorem en_83 : entersB Tryz.prog 83 = true := by kernel_rfl
theorem en_84 : entersB Tryz.prog 84 = true := by kernel_rfl
theorem en_85 : entersB Tryz.prog 85 = true := by kernel_rfl
theorem en_89 : entersB Tryz.prog 89 = true := by kernel_rfl
theorem en_9 : entersB Tryz.prog 9 = true := by kernel_rfl
theorem en_90 : entersB Tryz.prog 90 = true := by kernel_rfl
theorem en_91 : entersB Tryz.prog 91 = true := by kernel_rfl
theorem es_108 : elemSize Tryz.prog 108 = some (5, 1) := by kernel_rfl
theorem es_154 : elemSize Tryz.prog 154 = some (3, 1) := by kernel_rfl
theorem es_29 : elemSize Tryz.prog 29 = some (26, 3) := by kernel_rfl
theorem fo_101_0 : fieldOff Tryz.prog 101 0 = some 0 := by kernel_rfl
theorem fo_101_1 : fieldOff Tryz.prog 101 1 = some 1 := by kernel_rfl
theorem fo_101_2 : fieldOff Tryz.prog 101 2 = some 2 := by kernel_rfl
theorem fo_113_0 : fieldOff Tryz.prog 113 0 = some 0 := by kernel_rfl
theorem fo_113_1 : fieldOff Tryz.prog 113 1 = some 1 := by kernel_rfl
theorem fo_113_2 : fieldOff Tryz.prog 113 2 = some 2 := by kernel_rfl
theorem fo_24_0 : fieldOff Tryz.prog 24 0 = some 0 := by kernel_rfl
theorem fo_24_1 : fieldOff Tryz.prog 24 1 = some 1 := by kernel_rfl
theorem fo_26_0 : fieldOff Tryz.prog 26 0 = some 0 := by kernel_rfl
theorem fo_26_1 : fieldOff Tryz.prog 26 1 = some 2 := by kernel_rfl
theorem fo_28_0 : fieldOff Tryz.prog 28 0 = some 0 := by kernel_rfl
theorem fo_28_1 : fieldOff Tryz.prog 28 1 = some 1 := by kernel_rfl
theorem fo_31_0 : fieldOff Tryz.prog 31 0 = some 0 := by kernel_rfl
theorem fo_31_1 : fieldOff Tryz.prog 31 1 = some 1 := by kernel_rfl
theorem fo_31_2 : fieldOff Tryz.prog 31 2 = some 2 := by kernel_rfl
theorem fo_31_3 : fieldOff Tryz.prog 31 3 = some 3 := by kernel_rfl
theorem fo_31_4 : fieldOff Tryz.prog 31 4 = some 6 := by kernel_rfl
theorem fo_31_5 : fieldOff Tryz.prog 31 5 = some 8 := by kernel_rfl
theorem fo_39_0 : fieldOff Tryz.prog 39 0 = some 0 := by kernel_rfl
theorem fo_39_1 : fieldOff Tryz.prog 39 1 = some 1 := by kernel_rfl
theorem fo_42_0 : fieldOff Tryz.prog 42 0 = some 0 := by kernel_rfl
theorem fo_42_1 : fieldOff Tryz.prog 42 1 = some 1 := by kernel_rfl
theorem fo_44_3 : fieldOff Tryz.prog 44 3 = some 6 := by kernel_rfl
theorem fo_44_4 : fieldOff Tryz.prog 44 4 = some 8 := by kernel_rfl
theorem fo_48_0 : fieldOff Tryz.prog 48 0 = some 0 := by kernel_rfl
theorem fo_48_1 : fieldOff Tryz.prog 48 1 = some 1 := by kernel_rfl
theorem fo_48_2 : fieldOff Tryz.prog 48 2 = some 2 := by kernel_rfl
theorem fo_48_3 : fieldOff Tryz.prog 48 3 = some 3 := by kernel_rfl
theorem fo_48_4 : fieldOff Tryz.prog 48 4 = some 6 := by kernel_rfl
theorem fo_48_5 : fieldOff Tryz.prog 48 5 = some 8 := by kernel_rfl
theorem fo_55_1 : fieldOff Tryz.prog 55 1 = some 1 := by kernel_rfl
theorem fo_57_0 : fieldOff Tryz.prog 57 0 = some 0 := by kernel_rfl
theorem fo_57_1 : fieldOff Tryz.prog 57 1 = some 1 := by kernel_rfl
theorem fo_57_2 : fieldOff Tryz.prog 57 2 = some 2 := by kernel_rfl
theorem fo_77_0 : fieldOff Tryz.prog 77 0 = some 0 := by kernel_rfl
theorem fo_77_1 : fieldOff Tryz.prog 77 1 = some 1 := by kernel_rfl
theorem fo_77_2 : fieldOff Tryz.prog 77 2 = some 2 := by kernel_rfl
theorem fo_77_3 : fieldOff Tryz.prog 77 3 = some 3 := by kernel_rfl
theorem fo_83_0 : fieldOff Tryz.prog 83 0 = some 0 := by kernel_rfl
theorem fo_83_1 : fieldOff Tryz.prog 83 1 = some 1 := by kernel_rfl
theorem fo_83_2 : fieldOff Tryz.prog 83 2 = some 2 := by kernel_rfl
theorem fo_98_0 : fieldOff Tryz.prog 98 0 = some 0 := by kernel_rfl
theorem fo_98_1 : fieldOff Tryz.prog 98 1 = some 1 := by kernel_rfl
theorem mx_0 : Tryz.prog.follows .mixedOrders = true := by kernel_rfl
theorem pl_2 : plainB Tryz.prog 2 = true := by kernel_rfl
theorem pl_22 : plainB Tryz.prog 22 = true := by kernel_rfl
theorem pl_29 : plainB Tryz.prog 29 = true := by kernel_rfl
theorem pl_3 : plainB Tryz.prog 3 = true := by kernel_rfl
theorem pl_37 : plainB Tryz.prog 37 = true := by kernel_rfl
theorem pl_4 : plainB Tryz.prog 4 = true := by kernel_rfl
theorem pl_40 : plainB Tryz.prog 40 = true := by kernel_rfl
theorem pl_45 : plainB Tryz.prog 45 = true := by kernel_rfl
theorem pl_65 : plainB Tryz.prog 65 = true := by kernel_rfl
theorem pl_9 : plainB Tryz.prog 9 = true := by kernel_rfl
theorem pl_94 : plainB Tryz.prog 94 = true := by kernel_rfl
theorem ps_101 : placesOf Tryz.prog 101 = some [(0, 1), (1, 1), (2, 1)] := by kernel_rfl
theorem ps_113 : placesOf Tryz.prog 113 = some [(0, 1), (1, 1), (2, 1)] := by kernel_rfl
theorem ps_24 : placesOf Tryz.prog 24 = some [(0, 1), (1, 1)] := by kernel_rfl
theorem ps_26 : placesOf Tryz.prog 26 = some [(0, 2), (2, 1)] := by kernel_rfl
theorem ps_28 : placesOf Tryz.prog 28 = some [(0, 1), (1, 1)] := by kernel_rfl
theorem ps_31 : placesOf Tryz.prog 31 = some [(0, 1), (1, 1), (2, 1), (3, 3), (6, 2), (8, 1)] := by kernel_rfl
theorem ps_44 : placesOf Tryz.prog 44 = some [(0, 1), (1, 3), (4, 2), (6, 2), (8, 2)] := by kernel_rfl
theorem ps_48 : placesOf Tryz.prog 48 = some [(0, 1), (1, 1), (2, 1), (3, 3), (6, 2), (8, 1)] := by kernel_rfl
theorem ps_55 : placesOf Tryz.prog 55 = some [(0, 1), (1, 1)] := by kernel_rfl
theorem ps_57 : placesOf Tryz.prog 57 = some [(0, 1), (1, 1), (2, 2)] := by kernel_rfl
theorem ps_83 : placesOf Tryz.prog 83 = some [(0, 1), (1, 1), (2, 1)] := by kernel_rfl
theorem ps_98 : placesOf Tryz.prog 98 = some [(0, 1), (1, 1)] := by kernel_rfl
theorem sz_2 : (Tryz.prog.info? 2).map (·.size) = some 1 := by kernel_rfl
theorem sz_22 : (Tryz.prog.info? 22).map (·.size) = some 1 := by kernel_rfl
theorem sz_24 : (Tryz.prog.info? 24).map (·.size) = some 2 := by kernel_rfl
theorem sz_26 : (Tryz.prog.info? 26).map (·.size) = some 3 := by kernel_rfl
theorem sz_28 : (Tryz.prog.info? 28).map (·.size) = some 2 := by kernel_rfl
theorem sz_29 : (Tryz.prog.info? 29).map (·.size) = some 1 := by kernel_rfl
theorem sz_3 : (Tryz.prog.info? 3).map (·.size) = some 1 := by kernel_rfl
theorem sz_31 : (Tryz.prog.info? 31).map (·.size) = some 9 := by kernel_rfl
theorem sz_4 : (Tryz.prog.info? 4).map (·.size) = some 1 := by kernel_rfl
theorem sz_48 : (Tryz.prog.info? 48).map (·.size) = some 9 := by kernel_rfl
theorem sz_5 : (Tryz.prog.info? 5).map (·.size) = some 1 := by kernel_rfl
theorem sz_55 : (Tryz.prog.info? 55).map (·.size) = some 2 := by kernel_rfl
theorem sz_65 : (Tryz.prog.info? 65).map (·.size) = some 1 := by kernel_rfl
theorem sz_77 : (Tryz.prog.info? 77).map (·.size) = some 4 := by kernel_rfl
theorem sz_9 : (Tryz.prog.info? 9).map (·.size) = some 1 := by kernel_rfl
theorem zc_101 : zeroCells Tryz.prog 101 = some ([.int .i64 0, .string ⟨#[]⟩, .int .i64 0]) := by kernel_rfl
theorem zc_106 : zeroCells Tryz.prog 106 = some (List.replicate 9 (.int .u8 0)) := by kernel_rfl
theorem zc_113 : zeroCells Tryz.prog 113 = some ([.int .i64 0, .string ⟨#[]⟩, .int .i64 0]) := by kernel_rfl
theorem zc_24 : zeroCells Tryz.prog 24 = some ([.int .i64 0, .int .u32 0]) := by kernel_rfl
theorem zc_26 : zeroCells Tryz.prog 26 = some ([.int .i64 0, .int .u32 0, .int .i64 0]) := by kernel_rfl
theorem zc_28 : zeroCells Tryz.prog 28 = some ([.int .u32 0, .int .i64 0]) := by kernel_rfl
theorem zc_3 : zeroCells Tryz.prog 3 = some ([.int .i64 0]) := by kernel_rfl
theorem zc_31 : zeroCells Tryz.prog 31 = some ([.int .i64 0, .string ⟨#[]⟩, .int .i64 0, .int .i64 0, .int .u32 0, .int .i64 0, .int .u32 0, .int .i64 0, .slice none 0 0]) := by kernel_rfl
theorem zc_44 : zeroCells Tryz.prog 44 = some ([.int .i64 0, .int .i64 0, .int .u32 0, .int .i64 0, .int .i64 0, .int .i64 0, .slice none 0 0, .slice none 0 0, .slice none 0 0, .slice none 0 0]) := by kernel_rfl
theorem zc_48 : zeroCells Tryz.prog 48 = some ([.int .i64 0, .string ⟨#[]⟩, .int .i64 0, .int .i64 0, .int .u32 0, .int .i64 0, .int .u32 0, .int .i64 0, .slice none 0 0]) := by kernel_rfl
theorem zc_5 : zeroCells Tryz.prog 5 = some ([.int .u8 0]) := by kernel_rfl
theorem zc_55 : zeroCells Tryz.prog 55 = some ([.int .i64 0, .int .i64 0]) := by kernel_rfl
theorem zc_57 : zeroCells Tryz.prog 57 = some ([.string ⟨#[]⟩, .int .i64 0, .int .i64 0, .int .i64 0]) := by kernel_rfl
theorem zc_77 : zeroCells Tryz.prog 77 = some ([.bool false, .bool false, .bool false, .bool false]) := by kernel_rfl
theorem zc_83 : zeroCells Tryz.prog 83 = some ([.string ⟨#[]⟩, .int .i64 0, .nilIface]) := by kernel_rfl
theorem zc_94 : zeroCells Tryz.prog 94 = some ([.pointer none]) := by kernel_rfl
theorem zc_98 : zeroCells Tryz.prog 98 = some ([.int .i64 0, .nilIface]) := by kernel_rfl
end Ty
end Go.Proofs.YtdgllcmlfblelaaGreatDoor
