/- Closed facts on the types and functions of this seat's program, printed by gen.py. -/
import Derived.Test.YtngofknckkiboaaGreatDoorSq
import Derived.Test.YtngofknckkiboaaGreatDoorRows
namespace Go.Proofs.YtngofknckkiboaaGreatDoor
namespace Ty
theorem ag_101 : aggSize Tryz.prog 101 = some 7 := by kernel_rfl
theorem ag_111 : aggSize Tryz.prog 111 = some 2 := by kernel_rfl
theorem ag_112 : aggSize Tryz.prog 112 = some 2 := by kernel_rfl
theorem ag_128 : aggSize Tryz.prog 128 = some 4 := by kernel_rfl
theorem ag_160 : aggSize Tryz.prog 160 = some 4 := by kernel_rfl
theorem ag_161 : aggSize Tryz.prog 161 = some 7 := by kernel_rfl
theorem ag_27 : aggSize Tryz.prog 27 = some 2 := by kernel_rfl
theorem ag_29 : aggSize Tryz.prog 29 = some 3 := by kernel_rfl
theorem ag_31 : aggSize Tryz.prog 31 = some 2 := by kernel_rfl
theorem ag_35 : aggSize Tryz.prog 35 = some 2 := by kernel_rfl
theorem ag_38 : aggSize Tryz.prog 38 = some 2 := by kernel_rfl
theorem ag_40 : aggSize Tryz.prog 40 = some 10 := by kernel_rfl
theorem ag_47 : aggSize Tryz.prog 47 = some 3 := by kernel_rfl
theorem ag_48 : aggSize Tryz.prog 48 = some 2 := by kernel_rfl
theorem ag_51 : aggSize Tryz.prog 51 = some 2 := by kernel_rfl
theorem ag_54 : aggSize Tryz.prog 54 = some 2 := by kernel_rfl
theorem ag_56 : aggSize Tryz.prog 56 = some 10 := by kernel_rfl
theorem ag_58 : aggSize Tryz.prog 58 = some 2 := by kernel_rfl
theorem ag_60 : aggSize Tryz.prog 60 = some 3 := by kernel_rfl
theorem ag_62 : aggSize Tryz.prog 62 = some 9 := by kernel_rfl
theorem ag_64 : aggSize Tryz.prog 64 = some 9 := by kernel_rfl
theorem ag_71 : aggSize Tryz.prog 71 = some 3 := by kernel_rfl
theorem ag_75 : aggSize Tryz.prog 75 = some 3 := by kernel_rfl
theorem ag_83 : aggSize Tryz.prog 83 = some 3 := by kernel_rfl
theorem ag_96 : aggSize Tryz.prog 96 = some 4 := by kernel_rfl
theorem by_101 : (Tryz.prog.info? 101).map (·.bytes) = some 64 := by kernel_rfl
theorem by_111 : (Tryz.prog.info? 111).map (·.bytes) = some 24 := by kernel_rfl
theorem by_112 : (Tryz.prog.info? 112).map (·.bytes) = some 24 := by kernel_rfl
theorem by_160 : (Tryz.prog.info? 160).map (·.bytes) = some 40 := by kernel_rfl
theorem by_161 : (Tryz.prog.info? 161).map (·.bytes) = some 64 := by kernel_rfl
theorem by_60 : (Tryz.prog.info? 60).map (·.bytes) = some 24 := by kernel_rfl
theorem by_64 : (Tryz.prog.info? 64).map (·.bytes) = some 96 := by kernel_rfl
theorem by_9 : (Tryz.prog.info? 9).map (·.bytes) = some 16 := by kernel_rfl
theorem by_96 : (Tryz.prog.info? 96).map (·.bytes) = some 40 := by kernel_rfl
theorem eg_112 : Tryz.prog.eqGuardType Tryz.prog.depth 112 = false := by kernel_rfl
theorem eg_160 : Tryz.prog.eqGuardType Tryz.prog.depth 160 = false := by kernel_rfl
theorem eg_161 : Tryz.prog.eqGuardType Tryz.prog.depth 161 = false := by kernel_rfl
theorem eg_27 : Tryz.prog.eqGuardType Tryz.prog.depth 27 = false := by kernel_rfl
theorem eg_47 : Tryz.prog.eqGuardType Tryz.prog.depth 47 = false := by kernel_rfl
theorem eg_48 : Tryz.prog.eqGuardType Tryz.prog.depth 48 = false := by kernel_rfl
theorem eg_60 : Tryz.prog.eqGuardType Tryz.prog.depth 60 = false := by kernel_rfl
theorem en_10 : entersB Tryz.prog 10 = true := by kernel_rfl
theorem en_100 : entersB Tryz.prog 100 = true := by kernel_rfl
theorem en_101 : entersB Tryz.prog 101 = true := by kernel_rfl
theorem en_102 : entersB Tryz.prog 102 = true := by kernel_rfl
theorem en_103 : entersB Tryz.prog 103 = true := by kernel_rfl
theorem en_106 : entersB Tryz.prog 106 = true := by kernel_rfl
theorem en_109 : entersB Tryz.prog 109 = true := by kernel_rfl
theorem en_11 : entersB Tryz.prog 11 = true := by kernel_rfl
theorem en_110 : entersB Tryz.prog 110 = true := by kernel_rfl
theorem en_113 : entersB Tryz.prog 113 = true := by kernel_rfl
theorem en_116 : entersB Tryz.prog 116 = true := by kernel_rfl
theorem en_12 : entersB Tryz.prog 12 = true := by kernel_rfl
theorem en_120 : entersB Tryz.prog 120 = true := by kernel_rfl
theorem en_121 : entersB Tryz.prog 121 = true := by kernel_rfl
theorem en_122 : entersB Tryz.prog 122 = true := by kernel_rfl
theorem en_123 : entersB Tryz.prog 123 = true := by kernel_rfl
theorem en_124 : entersB Tryz.prog 124 = true := by kernel_rfl
theorem en_13 : entersB Tryz.prog 13 = true := by kernel_rfl
theorem en_14 : entersB Tryz.prog 14 = true := by kernel_rfl
theorem en_15 : entersB Tryz.prog 15 = true := by kernel_rfl
theorem en_158 : entersB Tryz.prog 158 = true := by kernel_rfl
theorem en_16 : entersB Tryz.prog 16 = true := by kernel_rfl
theorem en_17 : entersB Tryz.prog 17 = true := by kernel_rfl
theorem en_18 : entersB Tryz.prog 18 = true := by kernel_rfl
theorem en_19 : entersB Tryz.prog 19 = true := by kernel_rfl
theorem en_20 : entersB Tryz.prog 20 = true := by kernel_rfl
theorem en_21 : entersB Tryz.prog 21 = true := by kernel_rfl
theorem en_22 : entersB Tryz.prog 22 = true := by kernel_rfl
theorem en_23 : entersB Tryz.prog 23 = true := by kernel_rfl
theorem en_24 : entersB Tryz.prog 24 = true := by kernel_rfl
theorem en_25 : entersB Tryz.prog 25 = true := by kernel_rfl
theorem en_26 : entersB Tryz.prog 26 = true := by kernel_rfl
theorem en_27 : entersB Tryz.prog 27 = true := by kernel_rfl
theorem en_28 : entersB Tryz.prog 28 = true := by kernel_rfl
theorem en_29 : entersB Tryz.prog 29 = true := by kernel_rfl
theorem en_3 : entersB Tryz.prog 3 = true := by kernel_rfl
theorem en_30 : entersB Tryz.prog 30 = true := by kernel_rfl
theorem en_31 : entersB Tryz.prog 31 = true := by kernel_rfl
theorem en_32 : entersB Tryz.prog 32 = true := by kernel_rfl
theorem en_33 : entersB Tryz.prog 33 = true := by kernel_rfl
theorem en_34 : entersB Tryz.prog 34 = true := by kernel_rfl
theorem en_35 : entersB Tryz.prog 35 = true := by kernel_rfl
theorem en_36 : entersB Tryz.prog 36 = true := by kernel_rfl
theorem en_38 : entersB Tryz.prog 38 = true := by kernel_rfl
theorem en_39 : entersB Tryz.prog 39 = true := by kernel_rfl
theorem en_4 : entersB Tryz.prog 4 = true := by kernel_rfl
theorem en_40 : entersB Tryz.prog 40 = true := by kernel_rfl
theorem en_41 : entersB Tryz.prog 41 = true := by kernel_rfl
theorem en_42 : entersB Tryz.prog 42 = true := by kernel_rfl
theorem en_43 : entersB Tryz.prog 43 = true := by kernel_rfl
theorem en_44 : entersB Tryz.prog 44 = true := by kernel_rfl
theorem en_45 : entersB Tryz.prog 45 = true := by kernel_rfl
theorem en_46 : entersB Tryz.prog 46 = true := by kernel_rfl
theorem en_47 : entersB Tryz.prog 47 = true := by kernel_rfl
theorem en_48 : entersB Tryz.prog 48 = true := by kernel_rfl
theorem en_49 : entersB Tryz.prog 49 = true := by kernel_rfl
theorem en_5 : entersB Tryz.prog 5 = true := by kernel_rfl
theorem en_50 : entersB Tryz.prog 50 = true := by kernel_rfl
theorem en_51 : entersB Tryz.prog 51 = true := by kernel_rfl
theorem en_52 : entersB Tryz.prog 52 = true := by kernel_rfl
theorem en_53 : entersB Tryz.prog 53 = true := by kernel_rfl
theorem en_54 : entersB Tryz.prog 54 = true := by kernel_rfl
theorem en_55 : entersB Tryz.prog 55 = true := by kernel_rfl
theorem en_56 : entersB Tryz.prog 56 = true := by kernel_rfl
theorem en_57 : entersB Tryz.prog 57 = true := by kernel_rfl
theorem en_58 : entersB Tryz.prog 58 = true := by kernel_rfl
theorem en_59 : entersB Tryz.prog 59 = true := by kernel_rfl
theorem en_6 : entersB Tryz.prog 6 = true := by kernel_rfl
theorem en_60 : entersB Tryz.prog 60 = true := by kernel_rfl
theorem en_61 : entersB Tryz.prog 61 = true := by kernel_rfl
theorem en_62 : entersB Tryz.prog 62 = true := by kernel_rfl
theorem en_63 : entersB Tryz.prog 63 = true := by kernel_rfl
theorem en_64 : entersB Tryz.prog 64 = true := by kernel_rfl
theorem en_65 : entersB Tryz.prog 65 = true := by kernel_rfl
theorem en_66 : entersB Tryz.prog 66 = true := by kernel_rfl
theorem en_67 : entersB Tryz.prog 67 = true := by kernel_rfl
theorem en_68 : entersB Tryz.prog 68 = true := by kernel_rfl
theorem en_69 : entersB Tryz.prog 69 = true := by kernel_rfl
theorem en_7 : entersB Tryz.prog 7 = true := by kernel_rfl
theorem en_70 : entersB Tryz.prog 70 = true := by kernel_rfl
theorem en_71 : entersB Tryz.prog 71 = true := by kernel_rfl
theorem en_72 : entersB Tryz.prog 72 = true := by kernel_rfl
theorem en_73 : entersB Tryz.prog 73 = true := by kernel_rfl
theorem en_74 : entersB Tryz.prog 74 = true := by kernel_rfl
theorem en_75 : entersB Tryz.prog 75 = true := by kernel_rfl
theorem en_76 : entersB Tryz.prog 76 = true := by kernel_rfl
theorem en_77 : entersB Tryz.prog 77 = true := by kernel_rfl
theorem en_78 : entersB Tryz.prog 78 = true := by kernel_rfl
theorem en_79 : entersB Tryz.prog 79 = true := by kernel_rfl
theorem en_8 : entersB Tryz.prog 8 = true := by kernel_rfl
theorem en_80 : entersB Tryz.prog 80 = true := by kernel_rfl
theorem en_81 : entersB Tryz.prog 81 = true := by kernel_rfl
theorem en_82 : entersB Tryz.prog 82 = true := by kernel_rfl
theorem en_83 : entersB Tryz.prog 83 = true := by kernel_rfl
theorem en_84 : entersB Tryz.prog 84 = true := by kernel_rfl
theorem en_85 : entersB Tryz.prog 85 = true := by kernel_rfl
theorem en_87 : entersB Tryz.prog 87 = true := by kernel_rfl
theorem en_88 : entersB Tryz.prog 88 = true := by kernel_rfl
theorem en_89 : entersB Tryz.prog 89 = true := by kernel_rfl
theorem en_9 : entersB Tryz.prog 9 = true := by kernel_rfl
theorem en_90 : entersB Tryz.prog 90 = true := by kernel_rfl
theorem en_91 : entersB Tryz.prog 91 = true := by kernel_rfl
theorem en_92 : entersB Tryz.prog 92 = true := by kernel_rfl
theorem en_93 : entersB Tryz.prog 93 = true := by kernel_rfl
theorem en_94 : entersB Tryz.prog 94 = true := by kernel_rfl
theorem en_95 : entersB Tryz.prog 95 = true := by kernel_rfl
theorem en_96 : entersB Tryz.prog 96 = true := by kernel_rfl
theorem en_97 : entersB Tryz.prog 97 = true := by kernel_rfl
theorem en_98 : entersB Tryz.prog 98 = true := by kernel_rfl
theorem en_99 : entersB Tryz.prog 99 = true := by kernel_rfl
theorem es_114 : elemSize Tryz.prog 114 = some (9, 1) := by kernel_rfl
theorem es_178 : elemSize Tryz.prog 178 = some (41, 1) := by kernel_rfl
theorem es_191 : elemSize Tryz.prog 191 = some (33, 1) := by kernel_rfl
theorem es_204 : elemSize Tryz.prog 204 = some (3, 1) := by kernel_rfl
theorem es_207 : elemSize Tryz.prog 207 = some (2, 1) := by kernel_rfl
theorem es_22 : elemSize Tryz.prog 22 = some (62, 9) := by kernel_rfl
theorem es_32 : elemSize Tryz.prog 32 = some (96, 4) := by kernel_rfl
theorem es_33 : elemSize Tryz.prog 33 = some (60, 3) := by kernel_rfl
theorem es_36 : elemSize Tryz.prog 36 = some (101, 7) := by kernel_rfl
theorem es_45 : elemSize Tryz.prog 45 = some (64, 9) := by kernel_rfl
theorem es_49 : elemSize Tryz.prog 49 = some (160, 4) := by kernel_rfl
theorem es_52 : elemSize Tryz.prog 52 = some (161, 7) := by kernel_rfl
theorem es_69 : elemSize Tryz.prog 69 = some (112, 2) := by kernel_rfl
theorem es_73 : elemSize Tryz.prog 73 = some (111, 2) := by kernel_rfl
theorem fo_101_0 : fieldOff Tryz.prog 101 0 = some 0 := by kernel_rfl
theorem fo_101_1 : fieldOff Tryz.prog 101 1 = some 3 := by kernel_rfl
theorem fo_101_2 : fieldOff Tryz.prog 101 2 = some 4 := by kernel_rfl
theorem fo_101_3 : fieldOff Tryz.prog 101 3 = some 5 := by kernel_rfl
theorem fo_111_0 : fieldOff Tryz.prog 111 0 = some 0 := by kernel_rfl
theorem fo_111_1 : fieldOff Tryz.prog 111 1 = some 1 := by kernel_rfl
theorem fo_128_0 : fieldOff Tryz.prog 128 0 = some 0 := by kernel_rfl
theorem fo_128_1 : fieldOff Tryz.prog 128 1 = some 1 := by kernel_rfl
theorem fo_128_2 : fieldOff Tryz.prog 128 2 = some 2 := by kernel_rfl
theorem fo_128_3 : fieldOff Tryz.prog 128 3 = some 3 := by kernel_rfl
theorem fo_27_0 : fieldOff Tryz.prog 27 0 = some 0 := by kernel_rfl
theorem fo_27_1 : fieldOff Tryz.prog 27 1 = some 1 := by kernel_rfl
theorem fo_29_0 : fieldOff Tryz.prog 29 0 = some 0 := by kernel_rfl
theorem fo_29_1 : fieldOff Tryz.prog 29 1 = some 1 := by kernel_rfl
theorem fo_31_0 : fieldOff Tryz.prog 31 0 = some 0 := by kernel_rfl
theorem fo_31_1 : fieldOff Tryz.prog 31 1 = some 1 := by kernel_rfl
theorem fo_35_0 : fieldOff Tryz.prog 35 0 = some 0 := by kernel_rfl
theorem fo_35_1 : fieldOff Tryz.prog 35 1 = some 1 := by kernel_rfl
theorem fo_38_0 : fieldOff Tryz.prog 38 0 = some 0 := by kernel_rfl
theorem fo_38_1 : fieldOff Tryz.prog 38 1 = some 1 := by kernel_rfl
theorem fo_40_0 : fieldOff Tryz.prog 40 0 = some 0 := by kernel_rfl
theorem fo_40_1 : fieldOff Tryz.prog 40 1 = some 1 := by kernel_rfl
theorem fo_40_2 : fieldOff Tryz.prog 40 2 = some 4 := by kernel_rfl
theorem fo_40_3 : fieldOff Tryz.prog 40 3 = some 6 := by kernel_rfl
theorem fo_40_4 : fieldOff Tryz.prog 40 4 = some 8 := by kernel_rfl
theorem fo_51_0 : fieldOff Tryz.prog 51 0 = some 0 := by kernel_rfl
theorem fo_51_1 : fieldOff Tryz.prog 51 1 = some 1 := by kernel_rfl
theorem fo_54_0 : fieldOff Tryz.prog 54 0 = some 0 := by kernel_rfl
theorem fo_54_1 : fieldOff Tryz.prog 54 1 = some 1 := by kernel_rfl
theorem fo_56_0 : fieldOff Tryz.prog 56 0 = some 0 := by kernel_rfl
theorem fo_56_1 : fieldOff Tryz.prog 56 1 = some 1 := by kernel_rfl
theorem fo_56_2 : fieldOff Tryz.prog 56 2 = some 4 := by kernel_rfl
theorem fo_56_3 : fieldOff Tryz.prog 56 3 = some 6 := by kernel_rfl
theorem fo_56_4 : fieldOff Tryz.prog 56 4 = some 8 := by kernel_rfl
theorem fo_58_0 : fieldOff Tryz.prog 58 0 = some 0 := by kernel_rfl
theorem fo_58_1 : fieldOff Tryz.prog 58 1 = some 1 := by kernel_rfl
theorem fo_60_0 : fieldOff Tryz.prog 60 0 = some 0 := by kernel_rfl
theorem fo_60_1 : fieldOff Tryz.prog 60 1 = some 2 := by kernel_rfl
theorem fo_62_0 : fieldOff Tryz.prog 62 0 = some 0 := by kernel_rfl
theorem fo_62_1 : fieldOff Tryz.prog 62 1 = some 1 := by kernel_rfl
theorem fo_62_2 : fieldOff Tryz.prog 62 2 = some 2 := by kernel_rfl
theorem fo_62_3 : fieldOff Tryz.prog 62 3 = some 3 := by kernel_rfl
theorem fo_62_4 : fieldOff Tryz.prog 62 4 = some 6 := by kernel_rfl
theorem fo_62_5 : fieldOff Tryz.prog 62 5 = some 8 := by kernel_rfl
theorem fo_64_0 : fieldOff Tryz.prog 64 0 = some 0 := by kernel_rfl
theorem fo_64_1 : fieldOff Tryz.prog 64 1 = some 1 := by kernel_rfl
theorem fo_64_2 : fieldOff Tryz.prog 64 2 = some 2 := by kernel_rfl
theorem fo_64_3 : fieldOff Tryz.prog 64 3 = some 3 := by kernel_rfl
theorem fo_64_4 : fieldOff Tryz.prog 64 4 = some 6 := by kernel_rfl
theorem fo_64_5 : fieldOff Tryz.prog 64 5 = some 8 := by kernel_rfl
theorem fo_71_0 : fieldOff Tryz.prog 71 0 = some 0 := by kernel_rfl
theorem fo_71_1 : fieldOff Tryz.prog 71 1 = some 1 := by kernel_rfl
theorem fo_71_2 : fieldOff Tryz.prog 71 2 = some 2 := by kernel_rfl
theorem fo_75_0 : fieldOff Tryz.prog 75 0 = some 0 := by kernel_rfl
theorem fo_75_1 : fieldOff Tryz.prog 75 1 = some 1 := by kernel_rfl
theorem fo_75_2 : fieldOff Tryz.prog 75 2 = some 2 := by kernel_rfl
theorem fo_83_0 : fieldOff Tryz.prog 83 0 = some 0 := by kernel_rfl
theorem fo_83_1 : fieldOff Tryz.prog 83 1 = some 1 := by kernel_rfl
theorem fo_83_2 : fieldOff Tryz.prog 83 2 = some 2 := by kernel_rfl
theorem fo_96_0 : fieldOff Tryz.prog 96 0 = some 0 := by kernel_rfl
theorem fo_96_1 : fieldOff Tryz.prog 96 1 = some 3 := by kernel_rfl
theorem mx_0 : Tryz.prog.follows .mixedOrders = true := by kernel_rfl
theorem pl_2 : plainB Tryz.prog 2 = true := by kernel_rfl
theorem pl_25 : plainB Tryz.prog 25 = true := by kernel_rfl
theorem pl_3 : plainB Tryz.prog 3 = true := by kernel_rfl
theorem pl_32 : plainB Tryz.prog 32 = true := by kernel_rfl
theorem pl_33 : plainB Tryz.prog 33 = true := by kernel_rfl
theorem pl_36 : plainB Tryz.prog 36 = true := by kernel_rfl
theorem pl_4 : plainB Tryz.prog 4 = true := by kernel_rfl
theorem pl_41 : plainB Tryz.prog 41 = true := by kernel_rfl
theorem pl_49 : plainB Tryz.prog 49 = true := by kernel_rfl
theorem pl_52 : plainB Tryz.prog 52 = true := by kernel_rfl
theorem pl_69 : plainB Tryz.prog 69 = true := by kernel_rfl
theorem pl_73 : plainB Tryz.prog 73 = true := by kernel_rfl
theorem pl_9 : plainB Tryz.prog 9 = true := by kernel_rfl
theorem ps_101 : placesOf Tryz.prog 101 = some [(0, 3), (3, 1), (4, 1), (5, 2)] := by kernel_rfl
theorem ps_111 : placesOf Tryz.prog 111 = some [(0, 1), (1, 1)] := by kernel_rfl
theorem ps_112 : placesOf Tryz.prog 112 = some [(0, 1), (1, 1)] := by kernel_rfl
theorem ps_160 : placesOf Tryz.prog 160 = some [(0, 3), (3, 1)] := by kernel_rfl
theorem ps_161 : placesOf Tryz.prog 161 = some [(0, 3), (3, 1), (4, 1), (5, 2)] := by kernel_rfl
theorem ps_27 : placesOf Tryz.prog 27 = some [(0, 1), (1, 1)] := by kernel_rfl
theorem ps_29 : placesOf Tryz.prog 29 = some [(0, 1), (1, 2)] := by kernel_rfl
theorem ps_31 : placesOf Tryz.prog 31 = some [(0, 1), (1, 1)] := by kernel_rfl
theorem ps_35 : placesOf Tryz.prog 35 = some [(0, 1), (1, 1)] := by kernel_rfl
theorem ps_38 : placesOf Tryz.prog 38 = some [(0, 1), (1, 1)] := by kernel_rfl
theorem ps_40 : placesOf Tryz.prog 40 = some [(0, 1), (1, 3), (4, 2), (6, 2), (8, 2)] := by kernel_rfl
theorem ps_47 : placesOf Tryz.prog 47 = some [(0, 1), (1, 2)] := by kernel_rfl
theorem ps_48 : placesOf Tryz.prog 48 = some [(0, 1), (1, 1)] := by kernel_rfl
theorem ps_56 : placesOf Tryz.prog 56 = some [(0, 1), (1, 3), (4, 2), (6, 2), (8, 2)] := by kernel_rfl
theorem ps_58 : placesOf Tryz.prog 58 = some [(0, 1), (1, 1)] := by kernel_rfl
theorem ps_60 : placesOf Tryz.prog 60 = some [(0, 2), (2, 1)] := by kernel_rfl
theorem ps_64 : placesOf Tryz.prog 64 = some [(0, 1), (1, 1), (2, 1), (3, 3), (6, 2), (8, 1)] := by kernel_rfl
theorem ps_71 : placesOf Tryz.prog 71 = some [(0, 1), (1, 1), (2, 1)] := by kernel_rfl
theorem ps_75 : placesOf Tryz.prog 75 = some [(0, 1), (1, 1), (2, 1)] := by kernel_rfl
theorem ps_83 : placesOf Tryz.prog 83 = some [(0, 1), (1, 1), (2, 1)] := by kernel_rfl
theorem ps_96 : placesOf Tryz.prog 96 = some [(0, 3), (3, 1)] := by kernel_rfl
theorem sz_101 : (Tryz.prog.info? 101).map (·.size) = some 7 := by kernel_rfl
theorem sz_111 : (Tryz.prog.info? 111).map (·.size) = some 2 := by kernel_rfl
theorem sz_128 : (Tryz.prog.info? 128).map (·.size) = some 4 := by kernel_rfl
theorem sz_2 : (Tryz.prog.info? 2).map (·.size) = some 1 := by kernel_rfl
theorem sz_27 : (Tryz.prog.info? 27).map (·.size) = some 2 := by kernel_rfl
theorem sz_29 : (Tryz.prog.info? 29).map (·.size) = some 3 := by kernel_rfl
theorem sz_31 : (Tryz.prog.info? 31).map (·.size) = some 2 := by kernel_rfl
theorem sz_32 : (Tryz.prog.info? 32).map (·.size) = some 1 := by kernel_rfl
theorem sz_33 : (Tryz.prog.info? 33).map (·.size) = some 1 := by kernel_rfl
theorem sz_35 : (Tryz.prog.info? 35).map (·.size) = some 2 := by kernel_rfl
theorem sz_36 : (Tryz.prog.info? 36).map (·.size) = some 1 := by kernel_rfl
theorem sz_38 : (Tryz.prog.info? 38).map (·.size) = some 2 := by kernel_rfl
theorem sz_4 : (Tryz.prog.info? 4).map (·.size) = some 1 := by kernel_rfl
theorem sz_40 : (Tryz.prog.info? 40).map (·.size) = some 10 := by kernel_rfl
theorem sz_47 : (Tryz.prog.info? 47).map (·.size) = some 3 := by kernel_rfl
theorem sz_48 : (Tryz.prog.info? 48).map (·.size) = some 2 := by kernel_rfl
theorem sz_49 : (Tryz.prog.info? 49).map (·.size) = some 1 := by kernel_rfl
theorem sz_51 : (Tryz.prog.info? 51).map (·.size) = some 2 := by kernel_rfl
theorem sz_52 : (Tryz.prog.info? 52).map (·.size) = some 1 := by kernel_rfl
theorem sz_54 : (Tryz.prog.info? 54).map (·.size) = some 2 := by kernel_rfl
theorem sz_56 : (Tryz.prog.info? 56).map (·.size) = some 10 := by kernel_rfl
theorem sz_60 : (Tryz.prog.info? 60).map (·.size) = some 3 := by kernel_rfl
theorem sz_64 : (Tryz.prog.info? 64).map (·.size) = some 9 := by kernel_rfl
theorem sz_69 : (Tryz.prog.info? 69).map (·.size) = some 1 := by kernel_rfl
theorem sz_71 : (Tryz.prog.info? 71).map (·.size) = some 3 := by kernel_rfl
theorem sz_73 : (Tryz.prog.info? 73).map (·.size) = some 1 := by kernel_rfl
theorem sz_75 : (Tryz.prog.info? 75).map (·.size) = some 3 := by kernel_rfl
theorem sz_9 : (Tryz.prog.info? 9).map (·.size) = some 1 := by kernel_rfl
theorem sz_96 : (Tryz.prog.info? 96).map (·.size) = some 4 := by kernel_rfl
theorem zc_101 : zeroCells Tryz.prog 101 = some ([.int .i64 0, .int .u32 0, .int .i64 0, .string ⟨#[]⟩, .int .i64 0, .int .u32 0, .int .i64 0]) := by kernel_rfl
theorem zc_111 : zeroCells Tryz.prog 111 = some ([.string ⟨#[]⟩, .int .i64 0]) := by kernel_rfl
theorem zc_112 : zeroCells Tryz.prog 112 = some ([.string ⟨#[]⟩, .int .i64 0]) := by kernel_rfl
theorem zc_128 : zeroCells Tryz.prog 128 = some ([.bool false, .bool false, .bool false, .bool false]) := by kernel_rfl
theorem zc_160 : zeroCells Tryz.prog 160 = some ([.int .i64 0, .int .u32 0, .int .i64 0, .string ⟨#[]⟩]) := by kernel_rfl
theorem zc_161 : zeroCells Tryz.prog 161 = some ([.int .i64 0, .int .u32 0, .int .i64 0, .string ⟨#[]⟩, .int .i64 0, .int .u32 0, .int .i64 0]) := by kernel_rfl
theorem zc_182 : zeroCells Tryz.prog 182 = some (List.replicate 2 (.int .i64 0)) := by kernel_rfl
theorem zc_2 : zeroCells Tryz.prog 2 = some ([.int .i64 0]) := by kernel_rfl
theorem zc_27 : zeroCells Tryz.prog 27 = some ([.int .u32 0, .int .i64 0]) := by kernel_rfl
theorem zc_29 : zeroCells Tryz.prog 29 = some ([.int .i64 0, .int .u32 0, .int .i64 0]) := by kernel_rfl
theorem zc_3 : zeroCells Tryz.prog 3 = some ([.int .i64 0]) := by kernel_rfl
theorem zc_31 : zeroCells Tryz.prog 31 = some ([.int .i64 0, .int .i64 0]) := by kernel_rfl
theorem zc_33 : zeroCells Tryz.prog 33 = some ([.slice none 0 0]) := by kernel_rfl
theorem zc_35 : zeroCells Tryz.prog 35 = some ([.slice none 0 0, .slice none 0 0]) := by kernel_rfl
theorem zc_38 : zeroCells Tryz.prog 38 = some ([.slice none 0 0, .slice none 0 0]) := by kernel_rfl
theorem zc_40 : zeroCells Tryz.prog 40 = some ([.int .i64 0, .int .i64 0, .int .u32 0, .int .i64 0, .int .i64 0, .int .i64 0, .slice none 0 0, .slice none 0 0, .slice none 0 0, .slice none 0 0]) := by kernel_rfl
theorem zc_41 : zeroCells Tryz.prog 41 = some ([.int .i64 0]) := by kernel_rfl
theorem zc_47 : zeroCells Tryz.prog 47 = some ([.int .i64 0, .int .u32 0, .int .i64 0]) := by kernel_rfl
theorem zc_48 : zeroCells Tryz.prog 48 = some ([.int .i64 0, .int .i64 0]) := by kernel_rfl
theorem zc_51 : zeroCells Tryz.prog 51 = some ([.slice none 0 0, .slice none 0 0]) := by kernel_rfl
theorem zc_54 : zeroCells Tryz.prog 54 = some ([.slice none 0 0, .slice none 0 0]) := by kernel_rfl
theorem zc_56 : zeroCells Tryz.prog 56 = some ([.int .i64 0, .int .i64 0, .int .u32 0, .int .i64 0, .int .i64 0, .int .i64 0, .slice none 0 0, .slice none 0 0, .slice none 0 0, .slice none 0 0]) := by kernel_rfl
theorem zc_58 : zeroCells Tryz.prog 58 = some ([.int .i64 0, .int .u32 0]) := by kernel_rfl
theorem zc_60 : zeroCells Tryz.prog 60 = some ([.int .i64 0, .int .u32 0, .int .i64 0]) := by kernel_rfl
theorem zc_64 : zeroCells Tryz.prog 64 = some ([.int .i64 0, .string ⟨#[]⟩, .int .i64 0, .int .i64 0, .int .u32 0, .int .i64 0, .int .u32 0, .int .i64 0, .slice none 0 0]) := by kernel_rfl
theorem zc_71 : zeroCells Tryz.prog 71 = some ([.int .i64 0, .int .i64 0, .slice none 0 0]) := by kernel_rfl
theorem zc_75 : zeroCells Tryz.prog 75 = some ([.int .i64 0, .int .i64 0, .slice none 0 0]) := by kernel_rfl
theorem zc_83 : zeroCells Tryz.prog 83 = some ([.int .i64 0, .string ⟨#[]⟩, .int .i64 0]) := by kernel_rfl
theorem zc_9 : zeroCells Tryz.prog 9 = some ([.string ⟨#[]⟩]) := by kernel_rfl
theorem zc_96 : zeroCells Tryz.prog 96 = some ([.int .i64 0, .int .u32 0, .int .i64 0, .string ⟨#[]⟩]) := by kernel_rfl
end Ty
end Go.Proofs.YtngofknckkiboaaGreatDoor
