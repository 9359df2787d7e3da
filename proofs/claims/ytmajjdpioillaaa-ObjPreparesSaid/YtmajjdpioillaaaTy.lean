/- Closed facts on the types and functions of this seat's program, printed by gen.py. -/
import Derived.Test.YtmajjdpioillaaaSq
import Derived.Test.YtmajjdpioillaaaRows
namespace Go.Proofs.Ytmajjdpioillaaa
namespace Ty
theorem ag_101 : aggSize Try.prog 101 = some 4 := by kernel_rfl
theorem ag_106 : aggSize Try.prog 106 = some 4 := by kernel_rfl
theorem ag_109 : aggSize Try.prog 109 = some 4 := by kernel_rfl
theorem ag_111 : aggSize Try.prog 111 = some 7 := by kernel_rfl
theorem ag_113 : aggSize Try.prog 113 = some 7 := by kernel_rfl
theorem ag_24 : aggSize Try.prog 24 = some 2 := by kernel_rfl
theorem ag_26 : aggSize Try.prog 26 = some 3 := by kernel_rfl
theorem ag_28 : aggSize Try.prog 28 = some 2 := by kernel_rfl
theorem ag_32 : aggSize Try.prog 32 = some 2 := by kernel_rfl
theorem ag_35 : aggSize Try.prog 35 = some 2 := by kernel_rfl
theorem ag_37 : aggSize Try.prog 37 = some 10 := by kernel_rfl
theorem ag_39 : aggSize Try.prog 39 = some 3 := by kernel_rfl
theorem ag_41 : aggSize Try.prog 41 = some 2 := by kernel_rfl
theorem ag_43 : aggSize Try.prog 43 = some 3 := by kernel_rfl
theorem ag_46 : aggSize Try.prog 46 = some 9 := by kernel_rfl
theorem ag_47 : aggSize Try.prog 47 = some 9 := by kernel_rfl
theorem ag_51 : aggSize Try.prog 51 = some 3 := by kernel_rfl
theorem ag_52 : aggSize Try.prog 52 = some 2 := by kernel_rfl
theorem ag_55 : aggSize Try.prog 55 = some 2 := by kernel_rfl
theorem ag_58 : aggSize Try.prog 58 = some 2 := by kernel_rfl
theorem ag_60 : aggSize Try.prog 60 = some 10 := by kernel_rfl
theorem ag_62 : aggSize Try.prog 62 = some 3 := by kernel_rfl
theorem by_106 : (Try.prog.info? 106).map (·.bytes) = some 40 := by kernel_rfl
theorem by_109 : (Try.prog.info? 109).map (·.bytes) = some 40 := by kernel_rfl
theorem by_111 : (Try.prog.info? 111).map (·.bytes) = some 64 := by kernel_rfl
theorem by_113 : (Try.prog.info? 113).map (·.bytes) = some 64 := by kernel_rfl
theorem by_43 : (Try.prog.info? 43).map (·.bytes) = some 24 := by kernel_rfl
theorem eg_109 : Try.prog.eqGuardType Try.prog.depth 109 = false := by kernel_rfl
theorem eg_113 : Try.prog.eqGuardType Try.prog.depth 113 = false := by kernel_rfl
theorem eg_24 : Try.prog.eqGuardType Try.prog.depth 24 = false := by kernel_rfl
theorem eg_26 : Try.prog.eqGuardType Try.prog.depth 26 = false := by kernel_rfl
theorem eg_28 : Try.prog.eqGuardType Try.prog.depth 28 = false := by kernel_rfl
theorem eg_41 : Try.prog.eqGuardType Try.prog.depth 41 = false := by kernel_rfl
theorem eg_43 : Try.prog.eqGuardType Try.prog.depth 43 = false := by kernel_rfl
theorem en_10 : entersB Try.prog 10 = true := by kernel_rfl
theorem en_11 : entersB Try.prog 11 = true := by kernel_rfl
theorem en_12 : entersB Try.prog 12 = true := by kernel_rfl
theorem en_13 : entersB Try.prog 13 = true := by kernel_rfl
theorem en_14 : entersB Try.prog 14 = true := by kernel_rfl
theorem en_15 : entersB Try.prog 15 = true := by kernel_rfl
theorem en_16 : entersB Try.prog 16 = true := by kernel_rfl
theorem en_17 : entersB Try.prog 17 = true := by kernel_rfl
theorem en_18 : entersB Try.prog 18 = true := by kernel_rfl
theorem en_19 : entersB Try.prog 19 = true := by kernel_rfl
theorem en_20 : entersB Try.prog 20 = true := by kernel_rfl
theorem en_21 : entersB Try.prog 21 = true := by kernel_rfl
theorem en_22 : entersB Try.prog 22 = true := by kernel_rfl
theorem en_23 : entersB Try.prog 23 = true := by kernel_rfl
theorem en_24 : entersB Try.prog 24 = true := by kernel_rfl
theorem en_25 : entersB Try.prog 25 = true := by kernel_rfl
theorem en_26 : entersB Try.prog 26 = true := by kernel_rfl
theorem en_27 : entersB Try.prog 27 = true := by kernel_rfl
theorem en_28 : entersB Try.prog 28 = true := by kernel_rfl
theorem en_29 : entersB Try.prog 29 = true := by kernel_rfl
theorem en_3 : entersB Try.prog 3 = true := by kernel_rfl
theorem en_30 : entersB Try.prog 30 = true := by kernel_rfl
theorem en_31 : entersB Try.prog 31 = true := by kernel_rfl
theorem en_32 : entersB Try.prog 32 = true := by kernel_rfl
theorem en_33 : entersB Try.prog 33 = true := by kernel_rfl
theorem en_34 : entersB Try.prog 34 = true := by kernel_rfl
theorem en_35 : entersB Try.prog 35 = true := by kernel_rfl
theorem en_36 : entersB Try.prog 36 = true := by kernel_rfl
theorem en_37 : entersB Try.prog 37 = true := by kernel_rfl
theorem en_38 : entersB Try.prog 38 = true := by kernel_rfl
theorem en_39 : entersB Try.prog 39 = true := by kernel_rfl
theorem en_4 : entersB Try.prog 4 = true := by kernel_rfl
theorem en_40 : entersB Try.prog 40 = true := by kernel_rfl
theorem en_41 : entersB Try.prog 41 = true := by kernel_rfl
theorem en_42 : entersB Try.prog 42 = true := by kernel_rfl
theorem en_43 : entersB Try.prog 43 = true := by kernel_rfl
theorem en_44 : entersB Try.prog 44 = true := by kernel_rfl
theorem en_45 : entersB Try.prog 45 = true := by kernel_rfl
theorem en_46 : entersB Try.prog 46 = true := by kernel_rfl
theorem en_47 : entersB Try.prog 47 = true := by kernel_rfl
theorem en_48 : entersB Try.prog 48 = true := by kernel_rfl
theorem en_49 : entersB Try.prog 49 = true := by kernel_rfl
theorem en_5 : entersB Try.prog 5 = true := by kernel_rfl
theorem en_50 : entersB Try.prog 50 = true := by kernel_rfl
theorem en_51 : entersB Try.prog 51 = true := by kernel_rfl
theorem en_52 : entersB Try.prog 52 = true := by kernel_rfl
theorem en_53 : entersB Try.prog 53 = true := by kernel_rfl
theorem en_54 : entersB Try.prog 54 = true := by kernel_rfl
theorem en_55 : entersB Try.prog 55 = true := by kernel_rfl
theorem en_56 : entersB Try.prog 56 = true := by kernel_rfl
theorem en_57 : entersB Try.prog 57 = true := by kernel_rfl
theorem en_58 : entersB Try.prog 58 = true := by kernel_rfl
theorem en_59 : entersB Try.prog 59 = true := by kernel_rfl
theorem en_6 : entersB Try.prog 6 = true := by kernel_rfl
theorem en_60 : entersB Try.prog 60 = true := by kernel_rfl
theorem en_61 : entersB Try.prog 61 = true := by kernel_rfl
theorem en_62 : entersB Try.prog 62 = true := by kernel_rfl
theorem en_63 : entersB Try.prog 63 = true := by kernel_rfl
theorem en_64 : entersB Try.prog 64 = true := by kernel_rfl
theorem en_65 : entersB Try.prog 65 = true := by kernel_rfl
theorem en_66 : entersB Try.prog 66 = true := by kernel_rfl
theorem en_67 : entersB Try.prog 67 = true := by kernel_rfl
theorem en_68 : entersB Try.prog 68 = true := by kernel_rfl
theorem en_69 : entersB Try.prog 69 = true := by kernel_rfl
theorem en_7 : entersB Try.prog 7 = true := by kernel_rfl
theorem en_70 : entersB Try.prog 70 = true := by kernel_rfl
theorem en_71 : entersB Try.prog 71 = true := by kernel_rfl
theorem en_72 : entersB Try.prog 72 = true := by kernel_rfl
theorem en_73 : entersB Try.prog 73 = true := by kernel_rfl
theorem en_74 : entersB Try.prog 74 = true := by kernel_rfl
theorem en_75 : entersB Try.prog 75 = true := by kernel_rfl
theorem en_76 : entersB Try.prog 76 = true := by kernel_rfl
theorem en_77 : entersB Try.prog 77 = true := by kernel_rfl
theorem en_78 : entersB Try.prog 78 = true := by kernel_rfl
theorem en_79 : entersB Try.prog 79 = true := by kernel_rfl
theorem en_8 : entersB Try.prog 8 = true := by kernel_rfl
theorem en_80 : entersB Try.prog 80 = true := by kernel_rfl
theorem en_81 : entersB Try.prog 81 = true := by kernel_rfl
theorem en_82 : entersB Try.prog 82 = true := by kernel_rfl
theorem en_83 : entersB Try.prog 83 = true := by kernel_rfl
theorem en_84 : entersB Try.prog 84 = true := by kernel_rfl
theorem en_85 : entersB Try.prog 85 = true := by kernel_rfl
theorem en_86 : entersB Try.prog 86 = true := by kernel_rfl
theorem en_87 : entersB Try.prog 87 = true := by kernel_rfl
theorem en_88 : entersB Try.prog 88 = true := by kernel_rfl
theorem en_89 : entersB Try.prog 89 = true := by kernel_rfl
theorem en_9 : entersB Try.prog 9 = true := by kernel_rfl
theorem en_90 : entersB Try.prog 90 = true := by kernel_rfl
theorem en_91 : entersB Try.prog 91 = true := by kernel_rfl
theorem es_142 : elemSize Try.prog 142 = some (3, 1) := by kernel_rfl
theorem es_29 : elemSize Try.prog 29 = some (109, 4) := by kernel_rfl
theorem es_30 : elemSize Try.prog 30 = some (43, 3) := by kernel_rfl
theorem es_33 : elemSize Try.prog 33 = some (113, 7) := by kernel_rfl
theorem es_53 : elemSize Try.prog 53 = some (106, 4) := by kernel_rfl
theorem es_56 : elemSize Try.prog 56 = some (111, 7) := by kernel_rfl
theorem fo_101_0 : fieldOff Try.prog 101 0 = some 0 := by kernel_rfl
theorem fo_101_1 : fieldOff Try.prog 101 1 = some 1 := by kernel_rfl
theorem fo_101_2 : fieldOff Try.prog 101 2 = some 2 := by kernel_rfl
theorem fo_101_3 : fieldOff Try.prog 101 3 = some 3 := by kernel_rfl
theorem fo_106_0 : fieldOff Try.prog 106 0 = some 0 := by kernel_rfl
theorem fo_106_1 : fieldOff Try.prog 106 1 = some 3 := by kernel_rfl
theorem fo_109_0 : fieldOff Try.prog 109 0 = some 0 := by kernel_rfl
theorem fo_109_1 : fieldOff Try.prog 109 1 = some 3 := by kernel_rfl
theorem fo_111_0 : fieldOff Try.prog 111 0 = some 0 := by kernel_rfl
theorem fo_111_1 : fieldOff Try.prog 111 1 = some 3 := by kernel_rfl
theorem fo_111_2 : fieldOff Try.prog 111 2 = some 4 := by kernel_rfl
theorem fo_111_3 : fieldOff Try.prog 111 3 = some 5 := by kernel_rfl
theorem fo_113_0 : fieldOff Try.prog 113 0 = some 0 := by kernel_rfl
theorem fo_113_1 : fieldOff Try.prog 113 1 = some 3 := by kernel_rfl
theorem fo_113_2 : fieldOff Try.prog 113 2 = some 4 := by kernel_rfl
theorem fo_113_3 : fieldOff Try.prog 113 3 = some 5 := by kernel_rfl
theorem fo_24_0 : fieldOff Try.prog 24 0 = some 0 := by kernel_rfl
theorem fo_24_1 : fieldOff Try.prog 24 1 = some 1 := by kernel_rfl
theorem fo_26_0 : fieldOff Try.prog 26 0 = some 0 := by kernel_rfl
theorem fo_26_1 : fieldOff Try.prog 26 1 = some 1 := by kernel_rfl
theorem fo_28_0 : fieldOff Try.prog 28 0 = some 0 := by kernel_rfl
theorem fo_28_1 : fieldOff Try.prog 28 1 = some 1 := by kernel_rfl
theorem fo_32_0 : fieldOff Try.prog 32 0 = some 0 := by kernel_rfl
theorem fo_32_1 : fieldOff Try.prog 32 1 = some 1 := by kernel_rfl
theorem fo_35_0 : fieldOff Try.prog 35 0 = some 0 := by kernel_rfl
theorem fo_35_1 : fieldOff Try.prog 35 1 = some 1 := by kernel_rfl
theorem fo_37_0 : fieldOff Try.prog 37 0 = some 0 := by kernel_rfl
theorem fo_37_1 : fieldOff Try.prog 37 1 = some 1 := by kernel_rfl
theorem fo_37_2 : fieldOff Try.prog 37 2 = some 4 := by kernel_rfl
theorem fo_37_3 : fieldOff Try.prog 37 3 = some 6 := by kernel_rfl
theorem fo_37_4 : fieldOff Try.prog 37 4 = some 8 := by kernel_rfl
theorem fo_39_0 : fieldOff Try.prog 39 0 = some 0 := by kernel_rfl
theorem fo_39_1 : fieldOff Try.prog 39 1 = some 1 := by kernel_rfl
theorem fo_39_2 : fieldOff Try.prog 39 2 = some 2 := by kernel_rfl
theorem fo_41_0 : fieldOff Try.prog 41 0 = some 0 := by kernel_rfl
theorem fo_41_1 : fieldOff Try.prog 41 1 = some 1 := by kernel_rfl
theorem fo_43_0 : fieldOff Try.prog 43 0 = some 0 := by kernel_rfl
theorem fo_43_1 : fieldOff Try.prog 43 1 = some 2 := by kernel_rfl
theorem fo_46_0 : fieldOff Try.prog 46 0 = some 0 := by kernel_rfl
theorem fo_46_1 : fieldOff Try.prog 46 1 = some 1 := by kernel_rfl
theorem fo_46_2 : fieldOff Try.prog 46 2 = some 2 := by kernel_rfl
theorem fo_46_3 : fieldOff Try.prog 46 3 = some 3 := by kernel_rfl
theorem fo_46_4 : fieldOff Try.prog 46 4 = some 6 := by kernel_rfl
theorem fo_46_5 : fieldOff Try.prog 46 5 = some 8 := by kernel_rfl
theorem fo_47_0 : fieldOff Try.prog 47 0 = some 0 := by kernel_rfl
theorem fo_47_1 : fieldOff Try.prog 47 1 = some 1 := by kernel_rfl
theorem fo_47_2 : fieldOff Try.prog 47 2 = some 2 := by kernel_rfl
theorem fo_47_3 : fieldOff Try.prog 47 3 = some 3 := by kernel_rfl
theorem fo_47_4 : fieldOff Try.prog 47 4 = some 6 := by kernel_rfl
theorem fo_47_5 : fieldOff Try.prog 47 5 = some 8 := by kernel_rfl
theorem fo_51_0 : fieldOff Try.prog 51 0 = some 0 := by kernel_rfl
theorem fo_51_1 : fieldOff Try.prog 51 1 = some 1 := by kernel_rfl
theorem fo_52_0 : fieldOff Try.prog 52 0 = some 0 := by kernel_rfl
theorem fo_52_1 : fieldOff Try.prog 52 1 = some 1 := by kernel_rfl
theorem fo_55_0 : fieldOff Try.prog 55 0 = some 0 := by kernel_rfl
theorem fo_55_1 : fieldOff Try.prog 55 1 = some 1 := by kernel_rfl
theorem fo_58_0 : fieldOff Try.prog 58 0 = some 0 := by kernel_rfl
theorem fo_58_1 : fieldOff Try.prog 58 1 = some 1 := by kernel_rfl
theorem fo_60_0 : fieldOff Try.prog 60 0 = some 0 := by kernel_rfl
theorem fo_60_1 : fieldOff Try.prog 60 1 = some 1 := by kernel_rfl
theorem fo_60_2 : fieldOff Try.prog 60 2 = some 4 := by kernel_rfl
theorem fo_60_3 : fieldOff Try.prog 60 3 = some 6 := by kernel_rfl
theorem fo_60_4 : fieldOff Try.prog 60 4 = some 8 := by kernel_rfl
theorem fo_62_0 : fieldOff Try.prog 62 0 = some 0 := by kernel_rfl
theorem fo_62_1 : fieldOff Try.prog 62 1 = some 1 := by kernel_rfl
theorem fo_62_2 : fieldOff Try.prog 62 2 = some 2 := by kernel_rfl
theorem mx_0 : Try.prog.follows .mixedOrders = true := by kernel_rfl
theorem pl_2 : plainB Try.prog 2 = true := by kernel_rfl
theorem pl_22 : plainB Try.prog 22 = true := by kernel_rfl
theorem pl_29 : plainB Try.prog 29 = true := by kernel_rfl
theorem pl_3 : plainB Try.prog 3 = true := by kernel_rfl
theorem pl_30 : plainB Try.prog 30 = true := by kernel_rfl
theorem pl_33 : plainB Try.prog 33 = true := by kernel_rfl
theorem pl_4 : plainB Try.prog 4 = true := by kernel_rfl
theorem pl_53 : plainB Try.prog 53 = true := by kernel_rfl
theorem pl_56 : plainB Try.prog 56 = true := by kernel_rfl
theorem pl_9 : plainB Try.prog 9 = true := by kernel_rfl
theorem ps_106 : placesOf Try.prog 106 = some [(0, 3), (3, 1)] := by kernel_rfl
theorem ps_109 : placesOf Try.prog 109 = some [(0, 3), (3, 1)] := by kernel_rfl
theorem ps_111 : placesOf Try.prog 111 = some [(0, 3), (3, 1), (4, 1), (5, 2)] := by kernel_rfl
theorem ps_113 : placesOf Try.prog 113 = some [(0, 3), (3, 1), (4, 1), (5, 2)] := by kernel_rfl
theorem ps_26 : placesOf Try.prog 26 = some [(0, 1), (1, 2)] := by kernel_rfl
theorem ps_28 : placesOf Try.prog 28 = some [(0, 1), (1, 1)] := by kernel_rfl
theorem ps_37 : placesOf Try.prog 37 = some [(0, 1), (1, 3), (4, 2), (6, 2), (8, 2)] := by kernel_rfl
theorem ps_46 : placesOf Try.prog 46 = some [(0, 1), (1, 1), (2, 1), (3, 3), (6, 2), (8, 1)] := by kernel_rfl
theorem ps_47 : placesOf Try.prog 47 = some [(0, 1), (1, 1), (2, 1), (3, 3), (6, 2), (8, 1)] := by kernel_rfl
theorem ps_51 : placesOf Try.prog 51 = some [(0, 1), (1, 2)] := by kernel_rfl
theorem ps_52 : placesOf Try.prog 52 = some [(0, 1), (1, 1)] := by kernel_rfl
theorem ps_60 : placesOf Try.prog 60 = some [(0, 1), (1, 3), (4, 2), (6, 2), (8, 2)] := by kernel_rfl
theorem ps_62 : placesOf Try.prog 62 = some [(0, 1), (1, 1), (2, 1)] := by kernel_rfl
theorem sz_101 : (Try.prog.info? 101).map (·.size) = some 4 := by kernel_rfl
theorem sz_106 : (Try.prog.info? 106).map (·.size) = some 4 := by kernel_rfl
theorem sz_111 : (Try.prog.info? 111).map (·.size) = some 7 := by kernel_rfl
theorem sz_113 : (Try.prog.info? 113).map (·.size) = some 7 := by kernel_rfl
theorem sz_24 : (Try.prog.info? 24).map (·.size) = some 2 := by kernel_rfl
theorem sz_26 : (Try.prog.info? 26).map (·.size) = some 3 := by kernel_rfl
theorem sz_28 : (Try.prog.info? 28).map (·.size) = some 2 := by kernel_rfl
theorem sz_29 : (Try.prog.info? 29).map (·.size) = some 1 := by kernel_rfl
theorem sz_30 : (Try.prog.info? 30).map (·.size) = some 1 := by kernel_rfl
theorem sz_32 : (Try.prog.info? 32).map (·.size) = some 2 := by kernel_rfl
theorem sz_33 : (Try.prog.info? 33).map (·.size) = some 1 := by kernel_rfl
theorem sz_35 : (Try.prog.info? 35).map (·.size) = some 2 := by kernel_rfl
theorem sz_37 : (Try.prog.info? 37).map (·.size) = some 10 := by kernel_rfl
theorem sz_4 : (Try.prog.info? 4).map (·.size) = some 1 := by kernel_rfl
theorem sz_46 : (Try.prog.info? 46).map (·.size) = some 9 := by kernel_rfl
theorem sz_47 : (Try.prog.info? 47).map (·.size) = some 9 := by kernel_rfl
theorem sz_51 : (Try.prog.info? 51).map (·.size) = some 3 := by kernel_rfl
theorem sz_52 : (Try.prog.info? 52).map (·.size) = some 2 := by kernel_rfl
theorem sz_53 : (Try.prog.info? 53).map (·.size) = some 1 := by kernel_rfl
theorem sz_55 : (Try.prog.info? 55).map (·.size) = some 2 := by kernel_rfl
theorem sz_56 : (Try.prog.info? 56).map (·.size) = some 1 := by kernel_rfl
theorem sz_58 : (Try.prog.info? 58).map (·.size) = some 2 := by kernel_rfl
theorem sz_60 : (Try.prog.info? 60).map (·.size) = some 10 := by kernel_rfl
theorem sz_62 : (Try.prog.info? 62).map (·.size) = some 3 := by kernel_rfl
theorem zc_101 : zeroCells Try.prog 101 = some ([.bool false, .bool false, .bool false, .bool false]) := by kernel_rfl
theorem zc_106 : zeroCells Try.prog 106 = some ([.int .i64 0, .int .u32 0, .int .i64 0, .string ⟨#[]⟩]) := by kernel_rfl
theorem zc_109 : zeroCells Try.prog 109 = some ([.int .i64 0, .int .u32 0, .int .i64 0, .string ⟨#[]⟩]) := by kernel_rfl
theorem zc_111 : zeroCells Try.prog 111 = some ([.int .i64 0, .int .u32 0, .int .i64 0, .string ⟨#[]⟩, .int .i64 0, .int .u32 0, .int .i64 0]) := by kernel_rfl
theorem zc_113 : zeroCells Try.prog 113 = some ([.int .i64 0, .int .u32 0, .int .i64 0, .string ⟨#[]⟩, .int .i64 0, .int .u32 0, .int .i64 0]) := by kernel_rfl
theorem zc_26 : zeroCells Try.prog 26 = some ([.int .i64 0, .int .u32 0, .int .i64 0]) := by kernel_rfl
theorem zc_28 : zeroCells Try.prog 28 = some ([.int .i64 0, .int .i64 0]) := by kernel_rfl
theorem zc_3 : zeroCells Try.prog 3 = some ([.int .i64 0]) := by kernel_rfl
theorem zc_32 : zeroCells Try.prog 32 = some ([.slice none 0 0, .slice none 0 0]) := by kernel_rfl
theorem zc_35 : zeroCells Try.prog 35 = some ([.slice none 0 0, .slice none 0 0]) := by kernel_rfl
theorem zc_37 : zeroCells Try.prog 37 = some ([.int .i64 0, .int .i64 0, .int .u32 0, .int .i64 0, .int .i64 0, .int .i64 0, .slice none 0 0, .slice none 0 0, .slice none 0 0, .slice none 0 0]) := by kernel_rfl
theorem zc_43 : zeroCells Try.prog 43 = some ([.int .i64 0, .int .u32 0, .int .i64 0]) := by kernel_rfl
theorem zc_46 : zeroCells Try.prog 46 = some ([.int .i64 0, .string ⟨#[]⟩, .int .i64 0, .int .i64 0, .int .u32 0, .int .i64 0, .int .u32 0, .int .i64 0, .slice none 0 0]) := by kernel_rfl
theorem zc_47 : zeroCells Try.prog 47 = some ([.int .i64 0, .string ⟨#[]⟩, .int .i64 0, .int .i64 0, .int .u32 0, .int .i64 0, .int .u32 0, .int .i64 0, .slice none 0 0]) := by kernel_rfl
theorem zc_51 : zeroCells Try.prog 51 = some ([.int .i64 0, .int .u32 0, .int .i64 0]) := by kernel_rfl
theorem zc_52 : zeroCells Try.prog 52 = some ([.int .i64 0, .int .i64 0]) := by kernel_rfl
theorem zc_55 : zeroCells Try.prog 55 = some ([.slice none 0 0, .slice none 0 0]) := by kernel_rfl
theorem zc_58 : zeroCells Try.prog 58 = some ([.slice none 0 0, .slice none 0 0]) := by kernel_rfl
theorem zc_60 : zeroCells Try.prog 60 = some ([.int .i64 0, .int .i64 0, .int .u32 0, .int .i64 0, .int .i64 0, .int .i64 0, .slice none 0 0, .slice none 0 0, .slice none 0 0, .slice none 0 0]) := by kernel_rfl
theorem zc_62 : zeroCells Try.prog 62 = some ([.int .i64 0, .string ⟨#[]⟩, .int .i64 0]) := by kernel_rfl
end Ty
end Go.Proofs.Ytmajjdpioillaaa
