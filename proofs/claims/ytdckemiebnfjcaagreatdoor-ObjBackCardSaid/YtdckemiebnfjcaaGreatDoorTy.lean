/- Closed facts on the types and functions of this seat's program, printed by gen.py. -/
import Derived.Test.YtdckemiebnfjcaaGreatDoorSg
import Derived.Test.YtdckemiebnfjcaaGreatDoorRows
namespace Go.Proofs.YtdckemiebnfjcaaGreatDoor
namespace Ty
theorem ag_104 : aggSize Tryz.prog 104 = some 4 := by kernel_rfl
theorem ag_126 : aggSize Tryz.prog 126 = some 4 := by kernel_rfl
theorem ag_131 : aggSize Tryz.prog 131 = some 7 := by kernel_rfl
theorem ag_143 : aggSize Tryz.prog 143 = some 7 := by kernel_rfl
theorem ag_24 : aggSize Tryz.prog 24 = some 2 := by kernel_rfl
theorem ag_26 : aggSize Tryz.prog 26 = some 3 := by kernel_rfl
theorem ag_28 : aggSize Tryz.prog 28 = some 2 := by kernel_rfl
theorem ag_32 : aggSize Tryz.prog 32 = some 2 := by kernel_rfl
theorem ag_35 : aggSize Tryz.prog 35 = some 2 := by kernel_rfl
theorem ag_37 : aggSize Tryz.prog 37 = some 10 := by kernel_rfl
theorem ag_39 : aggSize Tryz.prog 39 = some 3 := by kernel_rfl
theorem ag_41 : aggSize Tryz.prog 41 = some 2 := by kernel_rfl
theorem ag_43 : aggSize Tryz.prog 43 = some 3 := by kernel_rfl
theorem ag_47 : aggSize Tryz.prog 47 = some 9 := by kernel_rfl
theorem ag_48 : aggSize Tryz.prog 48 = some 3 := by kernel_rfl
theorem ag_49 : aggSize Tryz.prog 49 = some 2 := by kernel_rfl
theorem ag_52 : aggSize Tryz.prog 52 = some 2 := by kernel_rfl
theorem ag_55 : aggSize Tryz.prog 55 = some 2 := by kernel_rfl
theorem ag_57 : aggSize Tryz.prog 57 = some 10 := by kernel_rfl
theorem ag_59 : aggSize Tryz.prog 59 = some 9 := by kernel_rfl
theorem ag_63 : aggSize Tryz.prog 63 = some 3 := by kernel_rfl
theorem ag_77 : aggSize Tryz.prog 77 = some 3 := by kernel_rfl
theorem ag_80 : aggSize Tryz.prog 80 = some 2 := by kernel_rfl
theorem ar_152 : arrSize Tryz.prog 152 = some (9, 1) := by kernel_rfl
theorem by_126 : (Tryz.prog.info? 126).map (·.bytes) = some 40 := by kernel_rfl
theorem by_131 : (Tryz.prog.info? 131).map (·.bytes) = some 64 := by kernel_rfl
theorem by_43 : (Tryz.prog.info? 43).map (·.bytes) = some 24 := by kernel_rfl
theorem by_80 : (Tryz.prog.info? 80).map (·.bytes) = some 24 := by kernel_rfl
theorem by_9 : (Tryz.prog.info? 9).map (·.bytes) = some 16 := by kernel_rfl
theorem eg_24 : Tryz.prog.eqGuardType Tryz.prog.depth 24 = false := by kernel_rfl
theorem eg_43 : Tryz.prog.eqGuardType Tryz.prog.depth 43 = false := by kernel_rfl
theorem en_10 : entersB Tryz.prog 10 = true := by kernel_rfl
theorem en_100 : entersB Tryz.prog 100 = true := by kernel_rfl
theorem en_101 : entersB Tryz.prog 101 = true := by kernel_rfl
theorem en_102 : entersB Tryz.prog 102 = true := by kernel_rfl
theorem en_103 : entersB Tryz.prog 103 = true := by kernel_rfl
theorem en_104 : entersB Tryz.prog 104 = true := by kernel_rfl
theorem en_105 : entersB Tryz.prog 105 = true := by kernel_rfl
theorem en_107 : entersB Tryz.prog 107 = true := by kernel_rfl
theorem en_108 : entersB Tryz.prog 108 = true := by kernel_rfl
theorem en_109 : entersB Tryz.prog 109 = true := by kernel_rfl
theorem en_11 : entersB Tryz.prog 11 = true := by kernel_rfl
theorem en_110 : entersB Tryz.prog 110 = true := by kernel_rfl
theorem en_111 : entersB Tryz.prog 111 = true := by kernel_rfl
theorem en_112 : entersB Tryz.prog 112 = true := by kernel_rfl
theorem en_113 : entersB Tryz.prog 113 = true := by kernel_rfl
theorem en_114 : entersB Tryz.prog 114 = true := by kernel_rfl
theorem en_115 : entersB Tryz.prog 115 = true := by kernel_rfl
theorem en_116 : entersB Tryz.prog 116 = true := by kernel_rfl
theorem en_117 : entersB Tryz.prog 117 = true := by kernel_rfl
theorem en_118 : entersB Tryz.prog 118 = true := by kernel_rfl
theorem en_119 : entersB Tryz.prog 119 = true := by kernel_rfl
theorem en_12 : entersB Tryz.prog 12 = true := by kernel_rfl
theorem en_120 : entersB Tryz.prog 120 = true := by kernel_rfl
theorem en_121 : entersB Tryz.prog 121 = true := by kernel_rfl
theorem en_122 : entersB Tryz.prog 122 = true := by kernel_rfl
theorem en_123 : entersB Tryz.prog 123 = true := by kernel_rfl
theorem en_124 : entersB Tryz.prog 124 = true := by kernel_rfl
theorem en_125 : entersB Tryz.prog 125 = true := by kernel_rfl
theorem en_128 : entersB Tryz.prog 128 = true := by kernel_rfl
theorem en_13 : entersB Tryz.prog 13 = true := by kernel_rfl
theorem en_131 : entersB Tryz.prog 131 = true := by kernel_rfl
theorem en_132 : entersB Tryz.prog 132 = true := by kernel_rfl
theorem en_135 : entersB Tryz.prog 135 = true := by kernel_rfl
theorem en_138 : entersB Tryz.prog 138 = true := by kernel_rfl
theorem en_14 : entersB Tryz.prog 14 = true := by kernel_rfl
theorem en_142 : entersB Tryz.prog 142 = true := by kernel_rfl
theorem en_143 : entersB Tryz.prog 143 = true := by kernel_rfl
theorem en_144 : entersB Tryz.prog 144 = true := by kernel_rfl
theorem en_15 : entersB Tryz.prog 15 = true := by kernel_rfl
theorem en_16 : entersB Tryz.prog 16 = true := by kernel_rfl
theorem en_17 : entersB Tryz.prog 17 = true := by kernel_rfl
theorem en_178 : entersB Tryz.prog 178 = true := by kernel_rfl
theorem en_18 : entersB Tryz.prog 18 = true := by kernel_rfl
theorem en_19 : entersB Tryz.prog 19 = true := by kernel_rfl
theorem en_20 : entersB Tryz.prog 20 = true := by kernel_rfl
theorem en_21 : entersB Tryz.prog 21 = true := by kernel_rfl
theorem en_22 : entersB Tryz.prog 22 = true := by kernel_rfl
theorem en_23 : entersB Tryz.prog 23 = true := by kernel_rfl
theorem en_24 : entersB Tryz.prog 24 = true := by kernel_rfl
theorem en_25 : entersB Tryz.prog 25 = true := by kernel_rfl
theorem en_26 : entersB Tryz.prog 26 = true := by kernel_rfl
theorem en_27 : entersB Tryz.prog 27 = true := by kernel_rfl
theorem en_28 : entersB Tryz.prog 28 = true := by kernel_rfl
theorem en_29 : entersB Tryz.prog 29 = true := by kernel_rfl
theorem en_3 : entersB Tryz.prog 3 = true := by kernel_rfl
theorem en_30 : entersB Tryz.prog 30 = true := by kernel_rfl
theorem en_31 : entersB Tryz.prog 31 = true := by kernel_rfl
theorem en_32 : entersB Tryz.prog 32 = true := by kernel_rfl
theorem en_33 : entersB Tryz.prog 33 = true := by kernel_rfl
theorem en_34 : entersB Tryz.prog 34 = true := by kernel_rfl
theorem en_35 : entersB Tryz.prog 35 = true := by kernel_rfl
theorem en_36 : entersB Tryz.prog 36 = true := by kernel_rfl
theorem en_37 : entersB Tryz.prog 37 = true := by kernel_rfl
theorem en_38 : entersB Tryz.prog 38 = true := by kernel_rfl
theorem en_39 : entersB Tryz.prog 39 = true := by kernel_rfl
theorem en_4 : entersB Tryz.prog 4 = true := by kernel_rfl
theorem en_40 : entersB Tryz.prog 40 = true := by kernel_rfl
theorem en_41 : entersB Tryz.prog 41 = true := by kernel_rfl
theorem en_42 : entersB Tryz.prog 42 = true := by kernel_rfl
theorem en_43 : entersB Tryz.prog 43 = true := by kernel_rfl
theorem en_44 : entersB Tryz.prog 44 = true := by kernel_rfl
theorem en_45 : entersB Tryz.prog 45 = true := by kernel_rfl
theorem en_46 : entersB Tryz.prog 46 = true := by kernel_rfl
theorem en_47 : entersB Tryz.prog 47 = true := by kernel_rfl
theorem en_48 : entersB Tryz.prog 48 = true := by kernel_rfl
theorem en_49 : entersB Tryz.prog 49 = true := by kernel_rfl
theorem en_5 : entersB Tryz.prog 5 = true := by kernel_rfl
theorem en_50 : entersB Tryz.prog 50 = true := by kernel_rfl
theorem en_51 : entersB Tryz.prog 51 = true := by kernel_rfl
theorem en_52 : entersB Tryz.prog 52 = true := by kernel_rfl
theorem en_53 : entersB Tryz.prog 53 = true := by kernel_rfl
theorem en_54 : entersB Tryz.prog 54 = true := by kernel_rfl
theorem en_55 : entersB Tryz.prog 55 = true := by kernel_rfl
theorem en_57 : entersB Tryz.prog 57 = true := by kernel_rfl
theorem en_58 : entersB Tryz.prog 58 = true := by kernel_rfl
theorem en_59 : entersB Tryz.prog 59 = true := by kernel_rfl
theorem en_6 : entersB Tryz.prog 6 = true := by kernel_rfl
theorem en_60 : entersB Tryz.prog 60 = true := by kernel_rfl
theorem en_61 : entersB Tryz.prog 61 = true := by kernel_rfl
theorem en_62 : entersB Tryz.prog 62 = true := by kernel_rfl
theorem en_63 : entersB Tryz.prog 63 = true := by kernel_rfl
theorem en_64 : entersB Tryz.prog 64 = true := by kernel_rfl
theorem en_65 : entersB Tryz.prog 65 = true := by kernel_rfl
theorem en_66 : entersB Tryz.prog 66 = true := by kernel_rfl
theorem en_67 : entersB Tryz.prog 67 = true := by kernel_rfl
theorem en_68 : entersB Tryz.prog 68 = true := by kernel_rfl
theorem en_69 : entersB Tryz.prog 69 = true := by kernel_rfl
theorem en_7 : entersB Tryz.prog 7 = true := by kernel_rfl
theorem en_70 : entersB Tryz.prog 70 = true := by kernel_rfl
theorem en_71 : entersB Tryz.prog 71 = true := by kernel_rfl
theorem en_72 : entersB Tryz.prog 72 = true := by kernel_rfl
theorem en_73 : entersB Tryz.prog 73 = true := by kernel_rfl
theorem en_74 : entersB Tryz.prog 74 = true := by kernel_rfl
theorem en_75 : entersB Tryz.prog 75 = true := by kernel_rfl
theorem en_76 : entersB Tryz.prog 76 = true := by kernel_rfl
theorem en_77 : entersB Tryz.prog 77 = true := by kernel_rfl
theorem en_78 : entersB Tryz.prog 78 = true := by kernel_rfl
theorem en_79 : entersB Tryz.prog 79 = true := by kernel_rfl
theorem en_8 : entersB Tryz.prog 8 = true := by kernel_rfl
theorem en_80 : entersB Tryz.prog 80 = true := by kernel_rfl
theorem en_81 : entersB Tryz.prog 81 = true := by kernel_rfl
theorem en_82 : entersB Tryz.prog 82 = true := by kernel_rfl
theorem en_83 : entersB Tryz.prog 83 = true := by kernel_rfl
theorem en_84 : entersB Tryz.prog 84 = true := by kernel_rfl
theorem en_85 : entersB Tryz.prog 85 = true := by kernel_rfl
theorem en_86 : entersB Tryz.prog 86 = true := by kernel_rfl
theorem en_87 : entersB Tryz.prog 87 = true := by kernel_rfl
theorem en_88 : entersB Tryz.prog 88 = true := by kernel_rfl
theorem en_89 : entersB Tryz.prog 89 = true := by kernel_rfl
theorem en_9 : entersB Tryz.prog 9 = true := by kernel_rfl
theorem en_90 : entersB Tryz.prog 90 = true := by kernel_rfl
theorem en_91 : entersB Tryz.prog 91 = true := by kernel_rfl
theorem en_92 : entersB Tryz.prog 92 = true := by kernel_rfl
theorem en_93 : entersB Tryz.prog 93 = true := by kernel_rfl
theorem en_94 : entersB Tryz.prog 94 = true := by kernel_rfl
theorem en_95 : entersB Tryz.prog 95 = true := by kernel_rfl
theorem en_96 : entersB Tryz.prog 96 = true := by kernel_rfl
theorem en_97 : entersB Tryz.prog 97 = true := by kernel_rfl
theorem en_98 : entersB Tryz.prog 98 = true := by kernel_rfl
theorem en_99 : entersB Tryz.prog 99 = true := by kernel_rfl
theorem es_134 : elemSize Tryz.prog 134 = some (9, 1) := by kernel_rfl
theorem es_210 : elemSize Tryz.prog 210 = some (60, 1) := by kernel_rfl
theorem es_217 : elemSize Tryz.prog 217 = some (30, 1) := by kernel_rfl
theorem es_229 : elemSize Tryz.prog 229 = some (3, 1) := by kernel_rfl
theorem es_232 : elemSize Tryz.prog 232 = some (2, 1) := by kernel_rfl
theorem es_29 : elemSize Tryz.prog 29 = some (141, 4) := by kernel_rfl
theorem es_30 : elemSize Tryz.prog 30 = some (43, 3) := by kernel_rfl
theorem es_33 : elemSize Tryz.prog 33 = some (143, 7) := by kernel_rfl
theorem es_50 : elemSize Tryz.prog 50 = some (126, 4) := by kernel_rfl
theorem es_53 : elemSize Tryz.prog 53 = some (131, 7) := by kernel_rfl
theorem es_75 : elemSize Tryz.prog 75 = some (80, 2) := by kernel_rfl
theorem fo_104_0 : fieldOff Tryz.prog 104 0 = some 0 := by kernel_rfl
theorem fo_104_1 : fieldOff Tryz.prog 104 1 = some 1 := by kernel_rfl
theorem fo_104_2 : fieldOff Tryz.prog 104 2 = some 2 := by kernel_rfl
theorem fo_104_3 : fieldOff Tryz.prog 104 3 = some 3 := by kernel_rfl
theorem fo_110_0 : fieldOff Tryz.prog 110 0 = some 0 := by kernel_rfl
theorem fo_110_1 : fieldOff Tryz.prog 110 1 = some 1 := by kernel_rfl
theorem fo_110_2 : fieldOff Tryz.prog 110 2 = some 2 := by kernel_rfl
theorem fo_126_0 : fieldOff Tryz.prog 126 0 = some 0 := by kernel_rfl
theorem fo_126_1 : fieldOff Tryz.prog 126 1 = some 3 := by kernel_rfl
theorem fo_131_0 : fieldOff Tryz.prog 131 0 = some 0 := by kernel_rfl
theorem fo_131_1 : fieldOff Tryz.prog 131 1 = some 3 := by kernel_rfl
theorem fo_131_2 : fieldOff Tryz.prog 131 2 = some 4 := by kernel_rfl
theorem fo_131_3 : fieldOff Tryz.prog 131 3 = some 5 := by kernel_rfl
theorem fo_141_0 : fieldOff Tryz.prog 141 0 = some 0 := by kernel_rfl
theorem fo_141_1 : fieldOff Tryz.prog 141 1 = some 3 := by kernel_rfl
theorem fo_143_0 : fieldOff Tryz.prog 143 0 = some 0 := by kernel_rfl
theorem fo_143_1 : fieldOff Tryz.prog 143 1 = some 3 := by kernel_rfl
theorem fo_143_2 : fieldOff Tryz.prog 143 2 = some 4 := by kernel_rfl
theorem fo_143_3 : fieldOff Tryz.prog 143 3 = some 5 := by kernel_rfl
theorem fo_24_0 : fieldOff Tryz.prog 24 0 = some 0 := by kernel_rfl
theorem fo_24_1 : fieldOff Tryz.prog 24 1 = some 1 := by kernel_rfl
theorem fo_26_0 : fieldOff Tryz.prog 26 0 = some 0 := by kernel_rfl
theorem fo_26_1 : fieldOff Tryz.prog 26 1 = some 1 := by kernel_rfl
theorem fo_28_0 : fieldOff Tryz.prog 28 0 = some 0 := by kernel_rfl
theorem fo_28_1 : fieldOff Tryz.prog 28 1 = some 1 := by kernel_rfl
theorem fo_32_0 : fieldOff Tryz.prog 32 0 = some 0 := by kernel_rfl
theorem fo_32_1 : fieldOff Tryz.prog 32 1 = some 1 := by kernel_rfl
theorem fo_35_0 : fieldOff Tryz.prog 35 0 = some 0 := by kernel_rfl
theorem fo_35_1 : fieldOff Tryz.prog 35 1 = some 1 := by kernel_rfl
theorem fo_37_0 : fieldOff Tryz.prog 37 0 = some 0 := by kernel_rfl
theorem fo_37_1 : fieldOff Tryz.prog 37 1 = some 1 := by kernel_rfl
theorem fo_37_2 : fieldOff Tryz.prog 37 2 = some 4 := by kernel_rfl
theorem fo_37_3 : fieldOff Tryz.prog 37 3 = some 6 := by kernel_rfl
theorem fo_37_4 : fieldOff Tryz.prog 37 4 = some 8 := by kernel_rfl
theorem fo_39_0 : fieldOff Tryz.prog 39 0 = some 0 := by kernel_rfl
theorem fo_39_1 : fieldOff Tryz.prog 39 1 = some 1 := by kernel_rfl
theorem fo_39_2 : fieldOff Tryz.prog 39 2 = some 2 := by kernel_rfl
theorem fo_41_0 : fieldOff Tryz.prog 41 0 = some 0 := by kernel_rfl
theorem fo_41_1 : fieldOff Tryz.prog 41 1 = some 1 := by kernel_rfl
theorem fo_43_0 : fieldOff Tryz.prog 43 0 = some 0 := by kernel_rfl
theorem fo_43_1 : fieldOff Tryz.prog 43 1 = some 2 := by kernel_rfl
theorem fo_47_0 : fieldOff Tryz.prog 47 0 = some 0 := by kernel_rfl
theorem fo_47_1 : fieldOff Tryz.prog 47 1 = some 1 := by kernel_rfl
theorem fo_47_2 : fieldOff Tryz.prog 47 2 = some 2 := by kernel_rfl
theorem fo_47_3 : fieldOff Tryz.prog 47 3 = some 3 := by kernel_rfl
theorem fo_47_4 : fieldOff Tryz.prog 47 4 = some 6 := by kernel_rfl
theorem fo_47_5 : fieldOff Tryz.prog 47 5 = some 8 := by kernel_rfl
theorem fo_48_0 : fieldOff Tryz.prog 48 0 = some 0 := by kernel_rfl
theorem fo_48_1 : fieldOff Tryz.prog 48 1 = some 1 := by kernel_rfl
theorem fo_49_0 : fieldOff Tryz.prog 49 0 = some 0 := by kernel_rfl
theorem fo_49_1 : fieldOff Tryz.prog 49 1 = some 1 := by kernel_rfl
theorem fo_52_0 : fieldOff Tryz.prog 52 0 = some 0 := by kernel_rfl
theorem fo_52_1 : fieldOff Tryz.prog 52 1 = some 1 := by kernel_rfl
theorem fo_55_0 : fieldOff Tryz.prog 55 0 = some 0 := by kernel_rfl
theorem fo_55_1 : fieldOff Tryz.prog 55 1 = some 1 := by kernel_rfl
theorem fo_57_0 : fieldOff Tryz.prog 57 0 = some 0 := by kernel_rfl
theorem fo_57_1 : fieldOff Tryz.prog 57 1 = some 1 := by kernel_rfl
theorem fo_57_2 : fieldOff Tryz.prog 57 2 = some 4 := by kernel_rfl
theorem fo_57_3 : fieldOff Tryz.prog 57 3 = some 6 := by kernel_rfl
theorem fo_57_4 : fieldOff Tryz.prog 57 4 = some 8 := by kernel_rfl
theorem fo_59_0 : fieldOff Tryz.prog 59 0 = some 0 := by kernel_rfl
theorem fo_59_1 : fieldOff Tryz.prog 59 1 = some 1 := by kernel_rfl
theorem fo_59_2 : fieldOff Tryz.prog 59 2 = some 2 := by kernel_rfl
theorem fo_59_3 : fieldOff Tryz.prog 59 3 = some 3 := by kernel_rfl
theorem fo_59_4 : fieldOff Tryz.prog 59 4 = some 6 := by kernel_rfl
theorem fo_59_5 : fieldOff Tryz.prog 59 5 = some 8 := by kernel_rfl
theorem fo_63_0 : fieldOff Tryz.prog 63 0 = some 0 := by kernel_rfl
theorem fo_63_1 : fieldOff Tryz.prog 63 1 = some 1 := by kernel_rfl
theorem fo_63_2 : fieldOff Tryz.prog 63 2 = some 2 := by kernel_rfl
theorem fo_77_1 : fieldOff Tryz.prog 77 1 = some 1 := by kernel_rfl
theorem fo_77_2 : fieldOff Tryz.prog 77 2 = some 2 := by kernel_rfl
theorem fo_80_0 : fieldOff Tryz.prog 80 0 = some 0 := by kernel_rfl
theorem mx_0 : Tryz.prog.follows .mixedOrders = true := by kernel_rfl
theorem pl_108 : plainB Tryz.prog 108 = true := by kernel_rfl
theorem pl_2 : plainB Tryz.prog 2 = true := by kernel_rfl
theorem pl_22 : plainB Tryz.prog 22 = true := by kernel_rfl
theorem pl_29 : plainB Tryz.prog 29 = true := by kernel_rfl
theorem pl_3 : plainB Tryz.prog 3 = true := by kernel_rfl
theorem pl_30 : plainB Tryz.prog 30 = true := by kernel_rfl
theorem pl_33 : plainB Tryz.prog 33 = true := by kernel_rfl
theorem pl_4 : plainB Tryz.prog 4 = true := by kernel_rfl
theorem pl_50 : plainB Tryz.prog 50 = true := by kernel_rfl
theorem pl_53 : plainB Tryz.prog 53 = true := by kernel_rfl
theorem pl_60 : plainB Tryz.prog 60 = true := by kernel_rfl
theorem pl_75 : plainB Tryz.prog 75 = true := by kernel_rfl
theorem pl_9 : plainB Tryz.prog 9 = true := by kernel_rfl
theorem ps_110 : placesOf Tryz.prog 110 = some [(0, 1), (1, 1), (2, 1)] := by kernel_rfl
theorem ps_126 : placesOf Tryz.prog 126 = some [(0, 3), (3, 1)] := by kernel_rfl
theorem ps_131 : placesOf Tryz.prog 131 = some [(0, 3), (3, 1), (4, 1), (5, 2)] := by kernel_rfl
theorem ps_163 : placesOf Tryz.prog 163 = some [(0, 1), (1, 1)] := by kernel_rfl
theorem ps_24 : placesOf Tryz.prog 24 = some [(0, 1), (1, 1)] := by kernel_rfl
theorem ps_41 : placesOf Tryz.prog 41 = some [(0, 1), (1, 1)] := by kernel_rfl
theorem ps_43 : placesOf Tryz.prog 43 = some [(0, 2), (2, 1)] := by kernel_rfl
theorem ps_47 : placesOf Tryz.prog 47 = some [(0, 1), (1, 1), (2, 1), (3, 3), (6, 2), (8, 1)] := by kernel_rfl
theorem ps_48 : placesOf Tryz.prog 48 = some [(0, 1), (1, 2)] := by kernel_rfl
theorem ps_49 : placesOf Tryz.prog 49 = some [(0, 1), (1, 1)] := by kernel_rfl
theorem ps_52 : placesOf Tryz.prog 52 = some [(0, 1), (1, 1)] := by kernel_rfl
theorem ps_55 : placesOf Tryz.prog 55 = some [(0, 1), (1, 1)] := by kernel_rfl
theorem ps_57 : placesOf Tryz.prog 57 = some [(0, 1), (1, 3), (4, 2), (6, 2), (8, 2)] := by kernel_rfl
theorem ps_59 : placesOf Tryz.prog 59 = some [(0, 1), (1, 1), (2, 1), (3, 3), (6, 2), (8, 1)] := by kernel_rfl
theorem ps_63 : placesOf Tryz.prog 63 = some [(0, 1), (1, 1), (2, 1)] := by kernel_rfl
theorem ps_77 : placesOf Tryz.prog 77 = some [(0, 1), (1, 1), (2, 1)] := by kernel_rfl
theorem ps_80 : placesOf Tryz.prog 80 = some [(0, 1), (1, 1)] := by kernel_rfl
theorem sz_104 : (Tryz.prog.info? 104).map (·.size) = some 4 := by kernel_rfl
theorem sz_108 : (Tryz.prog.info? 108).map (·.size) = some 1 := by kernel_rfl
theorem sz_126 : (Tryz.prog.info? 126).map (·.size) = some 4 := by kernel_rfl
theorem sz_131 : (Tryz.prog.info? 131).map (·.size) = some 7 := by kernel_rfl
theorem sz_2 : (Tryz.prog.info? 2).map (·.size) = some 1 := by kernel_rfl
theorem sz_22 : (Tryz.prog.info? 22).map (·.size) = some 1 := by kernel_rfl
theorem sz_24 : (Tryz.prog.info? 24).map (·.size) = some 2 := by kernel_rfl
theorem sz_3 : (Tryz.prog.info? 3).map (·.size) = some 1 := by kernel_rfl
theorem sz_30 : (Tryz.prog.info? 30).map (·.size) = some 1 := by kernel_rfl
theorem sz_4 : (Tryz.prog.info? 4).map (·.size) = some 1 := by kernel_rfl
theorem sz_41 : (Tryz.prog.info? 41).map (·.size) = some 2 := by kernel_rfl
theorem sz_43 : (Tryz.prog.info? 43).map (·.size) = some 3 := by kernel_rfl
theorem sz_47 : (Tryz.prog.info? 47).map (·.size) = some 9 := by kernel_rfl
theorem sz_48 : (Tryz.prog.info? 48).map (·.size) = some 3 := by kernel_rfl
theorem sz_49 : (Tryz.prog.info? 49).map (·.size) = some 2 := by kernel_rfl
theorem sz_5 : (Tryz.prog.info? 5).map (·.size) = some 1 := by kernel_rfl
theorem sz_50 : (Tryz.prog.info? 50).map (·.size) = some 1 := by kernel_rfl
theorem sz_52 : (Tryz.prog.info? 52).map (·.size) = some 2 := by kernel_rfl
theorem sz_53 : (Tryz.prog.info? 53).map (·.size) = some 1 := by kernel_rfl
theorem sz_55 : (Tryz.prog.info? 55).map (·.size) = some 2 := by kernel_rfl
theorem sz_57 : (Tryz.prog.info? 57).map (·.size) = some 10 := by kernel_rfl
theorem sz_59 : (Tryz.prog.info? 59).map (·.size) = some 9 := by kernel_rfl
theorem sz_63 : (Tryz.prog.info? 63).map (·.size) = some 3 := by kernel_rfl
theorem sz_75 : (Tryz.prog.info? 75).map (·.size) = some 1 := by kernel_rfl
theorem sz_77 : (Tryz.prog.info? 77).map (·.size) = some 3 := by kernel_rfl
theorem sz_80 : (Tryz.prog.info? 80).map (·.size) = some 2 := by kernel_rfl
theorem sz_9 : (Tryz.prog.info? 9).map (·.size) = some 1 := by kernel_rfl
theorem zc_104 : zeroCells Tryz.prog 104 = some ([.bool false, .bool false, .bool false, .bool false]) := by kernel_rfl
theorem zc_110 : zeroCells Tryz.prog 110 = some ([.string ⟨#[]⟩, .int .i64 0, .nilIface]) := by kernel_rfl
theorem zc_126 : zeroCells Tryz.prog 126 = some ([.int .i64 0, .int .u32 0, .int .i64 0, .string ⟨#[]⟩]) := by kernel_rfl
theorem zc_131 : zeroCells Tryz.prog 131 = some ([.int .i64 0, .int .u32 0, .int .i64 0, .string ⟨#[]⟩, .int .i64 0, .int .u32 0, .int .i64 0]) := by kernel_rfl
theorem zc_152 : zeroCells Tryz.prog 152 = some (List.replicate 9 (.int .u8 0)) := by kernel_rfl
theorem zc_163 : zeroCells Tryz.prog 163 = some ([.int .i64 0, .nilIface]) := by kernel_rfl
theorem zc_2 : zeroCells Tryz.prog 2 = some ([.int .i64 0]) := by kernel_rfl
theorem zc_213 : zeroCells Tryz.prog 213 = some (List.replicate 2 (.int .i64 0)) := by kernel_rfl
theorem zc_24 : zeroCells Tryz.prog 24 = some ([.int .u32 0, .int .i64 0]) := by kernel_rfl
theorem zc_3 : zeroCells Tryz.prog 3 = some ([.int .i64 0]) := by kernel_rfl
theorem zc_30 : zeroCells Tryz.prog 30 = some ([.slice none 0 0]) := by kernel_rfl
theorem zc_41 : zeroCells Tryz.prog 41 = some ([.int .i64 0, .int .u32 0]) := by kernel_rfl
theorem zc_43 : zeroCells Tryz.prog 43 = some ([.int .i64 0, .int .u32 0, .int .i64 0]) := by kernel_rfl
theorem zc_47 : zeroCells Tryz.prog 47 = some ([.int .i64 0, .string ⟨#[]⟩, .int .i64 0, .int .i64 0, .int .u32 0, .int .i64 0, .int .u32 0, .int .i64 0, .slice none 0 0]) := by kernel_rfl
theorem zc_48 : zeroCells Tryz.prog 48 = some ([.int .i64 0, .int .u32 0, .int .i64 0]) := by kernel_rfl
theorem zc_49 : zeroCells Tryz.prog 49 = some ([.int .i64 0, .int .i64 0]) := by kernel_rfl
theorem zc_52 : zeroCells Tryz.prog 52 = some ([.slice none 0 0, .slice none 0 0]) := by kernel_rfl
theorem zc_55 : zeroCells Tryz.prog 55 = some ([.slice none 0 0, .slice none 0 0]) := by kernel_rfl
theorem zc_57 : zeroCells Tryz.prog 57 = some ([.int .i64 0, .int .i64 0, .int .u32 0, .int .i64 0, .int .i64 0, .int .i64 0, .slice none 0 0, .slice none 0 0, .slice none 0 0, .slice none 0 0]) := by kernel_rfl
theorem zc_59 : zeroCells Tryz.prog 59 = some ([.int .i64 0, .string ⟨#[]⟩, .int .i64 0, .int .i64 0, .int .u32 0, .int .i64 0, .int .u32 0, .int .i64 0, .slice none 0 0]) := by kernel_rfl
theorem zc_60 : zeroCells Tryz.prog 60 = some ([.int .i64 0]) := by kernel_rfl
theorem zc_63 : zeroCells Tryz.prog 63 = some ([.int .i64 0, .string ⟨#[]⟩, .int .i64 0]) := by kernel_rfl
theorem zc_77 : zeroCells Tryz.prog 77 = some ([.int .i64 0, .int .i64 0, .slice none 0 0]) := by kernel_rfl
theorem zc_80 : zeroCells Tryz.prog 80 = some ([.string ⟨#[]⟩, .int .i64 0]) := by kernel_rfl
theorem zc_9 : zeroCells Tryz.prog 9 = some ([.string ⟨#[]⟩]) := by kernel_rfl
end Ty
end Go.Proofs.YtdckemiebnfjcaaGreatDoor
