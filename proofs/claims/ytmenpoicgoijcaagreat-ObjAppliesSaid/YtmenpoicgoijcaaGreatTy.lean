/- Closed facts on the types and functions of this seat's program, printed by gen.py. -/
import Derived.Test.YtmenpoicgoijcaaGreatSq
import Derived.Test.YtmenpoicgoijcaaGreatRows
namespace Go.Proofs.YtmenpoicgoijcaaGreat
namespace Ty
theorem ag_101 : aggSize Tryz.prog 101 = some 7 := by kernel_rfl
theorem ag_110 : aggSize Tryz.prog 110 = some 4 := by kernel_rfl
theorem ag_114 : aggSize Tryz.prog 114 = some 7 := by kernel_rfl
theorem ag_128 : aggSize Tryz.prog 128 = some 2 := by kernel_rfl
theorem ag_129 : aggSize Tryz.prog 129 = some 2 := by kernel_rfl
theorem ag_144 : aggSize Tryz.prog 144 = some 4 := by kernel_rfl
theorem ag_24 : aggSize Tryz.prog 24 = some 2 := by kernel_rfl
theorem ag_26 : aggSize Tryz.prog 26 = some 3 := by kernel_rfl
theorem ag_28 : aggSize Tryz.prog 28 = some 2 := by kernel_rfl
theorem ag_32 : aggSize Tryz.prog 32 = some 2 := by kernel_rfl
theorem ag_35 : aggSize Tryz.prog 35 = some 2 := by kernel_rfl
theorem ag_37 : aggSize Tryz.prog 37 = some 10 := by kernel_rfl
theorem ag_39 : aggSize Tryz.prog 39 = some 2 := by kernel_rfl
theorem ag_41 : aggSize Tryz.prog 41 = some 3 := by kernel_rfl
theorem ag_43 : aggSize Tryz.prog 43 = some 9 := by kernel_rfl
theorem ag_45 : aggSize Tryz.prog 45 = some 8 := by kernel_rfl
theorem ag_47 : aggSize Tryz.prog 47 = some 3 := by kernel_rfl
theorem ag_48 : aggSize Tryz.prog 48 = some 2 := by kernel_rfl
theorem ag_51 : aggSize Tryz.prog 51 = some 2 := by kernel_rfl
theorem ag_54 : aggSize Tryz.prog 54 = some 2 := by kernel_rfl
theorem ag_56 : aggSize Tryz.prog 56 = some 10 := by kernel_rfl
theorem ag_61 : aggSize Tryz.prog 61 = some 9 := by kernel_rfl
theorem ag_72 : aggSize Tryz.prog 72 = some 3 := by kernel_rfl
theorem ag_76 : aggSize Tryz.prog 76 = some 3 := by kernel_rfl
theorem ag_96 : aggSize Tryz.prog 96 = some 4 := by kernel_rfl
theorem ar_45 : arrSize Tryz.prog 45 = some (8, 1) := by kernel_rfl
theorem by_101 : (Tryz.prog.info? 101).map (·.bytes) = some 64 := by kernel_rfl
theorem by_110 : (Tryz.prog.info? 110).map (·.bytes) = some 40 := by kernel_rfl
theorem by_114 : (Tryz.prog.info? 114).map (·.bytes) = some 64 := by kernel_rfl
theorem by_128 : (Tryz.prog.info? 128).map (·.bytes) = some 24 := by kernel_rfl
theorem by_129 : (Tryz.prog.info? 129).map (·.bytes) = some 24 := by kernel_rfl
theorem by_41 : (Tryz.prog.info? 41).map (·.bytes) = some 24 := by kernel_rfl
theorem by_9 : (Tryz.prog.info? 9).map (·.bytes) = some 16 := by kernel_rfl
theorem by_96 : (Tryz.prog.info? 96).map (·.bytes) = some 40 := by kernel_rfl
theorem eg_110 : Tryz.prog.eqGuardType Tryz.prog.depth 110 = false := by kernel_rfl
theorem eg_114 : Tryz.prog.eqGuardType Tryz.prog.depth 114 = false := by kernel_rfl
theorem eg_129 : Tryz.prog.eqGuardType Tryz.prog.depth 129 = false := by kernel_rfl
theorem eg_24 : Tryz.prog.eqGuardType Tryz.prog.depth 24 = false := by kernel_rfl
theorem eg_26 : Tryz.prog.eqGuardType Tryz.prog.depth 26 = false := by kernel_rfl
theorem eg_28 : Tryz.prog.eqGuardType Tryz.prog.depth 28 = false := by kernel_rfl
theorem eg_39 : Tryz.prog.eqGuardType Tryz.prog.depth 39 = false := by kernel_rfl
theorem eg_41 : Tryz.prog.eqGuardType Tryz.prog.depth 41 = false := by kernel_rfl
theorem en_10 : entersB Tryz.prog 10 = true := by kernel_rfl
theorem en_100 : entersB Tryz.prog 100 = true := by kernel_rfl
theorem en_101 : entersB Tryz.prog 101 = true := by kernel_rfl
theorem en_102 : entersB Tryz.prog 102 = true := by kernel_rfl
theorem en_103 : entersB Tryz.prog 103 = true := by kernel_rfl
theorem en_104 : entersB Tryz.prog 104 = true := by kernel_rfl
theorem en_105 : entersB Tryz.prog 105 = true := by kernel_rfl
theorem en_106 : entersB Tryz.prog 106 = true := by kernel_rfl
theorem en_107 : entersB Tryz.prog 107 = true := by kernel_rfl
theorem en_108 : entersB Tryz.prog 108 = true := by kernel_rfl
theorem en_109 : entersB Tryz.prog 109 = true := by kernel_rfl
theorem en_11 : entersB Tryz.prog 11 = true := by kernel_rfl
theorem en_110 : entersB Tryz.prog 110 = true := by kernel_rfl
theorem en_111 : entersB Tryz.prog 111 = true := by kernel_rfl
theorem en_112 : entersB Tryz.prog 112 = true := by kernel_rfl
theorem en_113 : entersB Tryz.prog 113 = true := by kernel_rfl
theorem en_114 : entersB Tryz.prog 114 = true := by kernel_rfl
theorem en_115 : entersB Tryz.prog 115 = true := by kernel_rfl
theorem en_116 : entersB Tryz.prog 116 = true := by kernel_rfl
theorem en_117 : entersB Tryz.prog 117 = true := by kernel_rfl
theorem en_118 : entersB Tryz.prog 118 = true := by kernel_rfl
theorem en_119 : entersB Tryz.prog 119 = true := by kernel_rfl
theorem en_12 : entersB Tryz.prog 12 = true := by kernel_rfl
theorem en_120 : entersB Tryz.prog 120 = true := by kernel_rfl
theorem en_121 : entersB Tryz.prog 121 = true := by kernel_rfl
theorem en_122 : entersB Tryz.prog 122 = true := by kernel_rfl
theorem en_123 : entersB Tryz.prog 123 = true := by kernel_rfl
theorem en_124 : entersB Tryz.prog 124 = true := by kernel_rfl
theorem en_125 : entersB Tryz.prog 125 = true := by kernel_rfl
theorem en_126 : entersB Tryz.prog 126 = true := by kernel_rfl
theorem en_127 : entersB Tryz.prog 127 = true := by kernel_rfl
theorem en_128 : entersB Tryz.prog 128 = true := by kernel_rfl
theorem en_129 : entersB Tryz.prog 129 = true := by kernel_rfl
theorem en_13 : entersB Tryz.prog 13 = true := by kernel_rfl
theorem en_130 : entersB Tryz.prog 130 = true := by kernel_rfl
theorem en_131 : entersB Tryz.prog 131 = true := by kernel_rfl
theorem en_132 : entersB Tryz.prog 132 = true := by kernel_rfl
theorem en_133 : entersB Tryz.prog 133 = true := by kernel_rfl
theorem en_134 : entersB Tryz.prog 134 = true := by kernel_rfl
theorem en_135 : entersB Tryz.prog 135 = true := by kernel_rfl
theorem en_136 : entersB Tryz.prog 136 = true := by kernel_rfl
theorem en_137 : entersB Tryz.prog 137 = true := by kernel_rfl
theorem en_14 : entersB Tryz.prog 14 = true := by kernel_rfl
theorem en_140 : entersB Tryz.prog 140 = true := by kernel_rfl
theorem en_143 : entersB Tryz.prog 143 = true := by kernel_rfl
theorem en_144 : entersB Tryz.prog 144 = true := by kernel_rfl
theorem en_147 : entersB Tryz.prog 147 = true := by kernel_rfl
theorem en_148 : entersB Tryz.prog 148 = true := by kernel_rfl
theorem en_149 : entersB Tryz.prog 149 = true := by kernel_rfl
theorem en_15 : entersB Tryz.prog 15 = true := by kernel_rfl
theorem en_150 : entersB Tryz.prog 150 = true := by kernel_rfl
theorem en_151 : entersB Tryz.prog 151 = true := by kernel_rfl
theorem en_152 : entersB Tryz.prog 152 = true := by kernel_rfl
theorem en_153 : entersB Tryz.prog 153 = true := by kernel_rfl
theorem en_156 : entersB Tryz.prog 156 = true := by kernel_rfl
theorem en_157 : entersB Tryz.prog 157 = true := by kernel_rfl
theorem en_158 : entersB Tryz.prog 158 = true := by kernel_rfl
theorem en_159 : entersB Tryz.prog 159 = true := by kernel_rfl
theorem en_16 : entersB Tryz.prog 16 = true := by kernel_rfl
theorem en_17 : entersB Tryz.prog 17 = true := by kernel_rfl
theorem en_18 : entersB Tryz.prog 18 = true := by kernel_rfl
theorem en_189 : entersB Tryz.prog 189 = true := by kernel_rfl
theorem en_19 : entersB Tryz.prog 19 = true := by kernel_rfl
theorem en_20 : entersB Tryz.prog 20 = true := by kernel_rfl
theorem en_21 : entersB Tryz.prog 21 = true := by kernel_rfl
theorem en_22 : entersB Tryz.prog 22 = true := by kernel_rfl
theorem en_23 : entersB Tryz.prog 23 = true := by kernel_rfl
theorem en_24 : entersB Tryz.prog 24 = true := by kernel_rfl
theorem en_25 : entersB Tryz.prog 25 = true := by kernel_rfl
theorem en_26 : entersB Tryz.prog 26 = true := by kernel_rfl
theorem en_27 : entersB Tryz.prog 27 = true := by kernel_rfl
theorem en_28 : entersB Tryz.prog 28 = true := by kernel_rfl
theorem en_29 : entersB Tryz.prog 29 = true := by kernel_rfl
theorem en_3 : entersB Tryz.prog 3 = true := by kernel_rfl
theorem en_30 : entersB Tryz.prog 30 = true := by kernel_rfl
theorem en_31 : entersB Tryz.prog 31 = true := by kernel_rfl
theorem en_32 : entersB Tryz.prog 32 = true := by kernel_rfl
theorem en_33 : entersB Tryz.prog 33 = true := by kernel_rfl
theorem en_34 : entersB Tryz.prog 34 = true := by kernel_rfl
theorem en_35 : entersB Tryz.prog 35 = true := by kernel_rfl
theorem en_36 : entersB Tryz.prog 36 = true := by kernel_rfl
theorem en_37 : entersB Tryz.prog 37 = true := by kernel_rfl
theorem en_38 : entersB Tryz.prog 38 = true := by kernel_rfl
theorem en_39 : entersB Tryz.prog 39 = true := by kernel_rfl
theorem en_4 : entersB Tryz.prog 4 = true := by kernel_rfl
theorem en_40 : entersB Tryz.prog 40 = true := by kernel_rfl
theorem en_41 : entersB Tryz.prog 41 = true := by kernel_rfl
theorem en_42 : entersB Tryz.prog 42 = true := by kernel_rfl
theorem en_43 : entersB Tryz.prog 43 = true := by kernel_rfl
theorem en_44 : entersB Tryz.prog 44 = true := by kernel_rfl
theorem en_45 : entersB Tryz.prog 45 = true := by kernel_rfl
theorem en_46 : entersB Tryz.prog 46 = true := by kernel_rfl
theorem en_47 : entersB Tryz.prog 47 = true := by kernel_rfl
theorem en_48 : entersB Tryz.prog 48 = true := by kernel_rfl
theorem en_49 : entersB Tryz.prog 49 = true := by kernel_rfl
theorem en_5 : entersB Tryz.prog 5 = true := by kernel_rfl
theorem en_50 : entersB Tryz.prog 50 = true := by kernel_rfl
theorem en_51 : entersB Tryz.prog 51 = true := by kernel_rfl
theorem en_52 : entersB Tryz.prog 52 = true := by kernel_rfl
theorem en_53 : entersB Tryz.prog 53 = true := by kernel_rfl
theorem en_54 : entersB Tryz.prog 54 = true := by kernel_rfl
theorem en_55 : entersB Tryz.prog 55 = true := by kernel_rfl
theorem en_56 : entersB Tryz.prog 56 = true := by kernel_rfl
theorem en_57 : entersB Tryz.prog 57 = true := by kernel_rfl
theorem en_58 : entersB Tryz.prog 58 = true := by kernel_rfl
theorem en_59 : entersB Tryz.prog 59 = true := by kernel_rfl
theorem en_6 : entersB Tryz.prog 6 = true := by kernel_rfl
theorem en_60 : entersB Tryz.prog 60 = true := by kernel_rfl
theorem en_61 : entersB Tryz.prog 61 = true := by kernel_rfl
theorem en_62 : entersB Tryz.prog 62 = true := by kernel_rfl
theorem en_63 : entersB Tryz.prog 63 = true := by kernel_rfl
theorem en_64 : entersB Tryz.prog 64 = true := by kernel_rfl
theorem en_65 : entersB Tryz.prog 65 = true := by kernel_rfl
theorem en_66 : entersB Tryz.prog 66 = true := by kernel_rfl
theorem en_67 : entersB Tryz.prog 67 = true := by kernel_rfl
theorem en_68 : entersB Tryz.prog 68 = true := by kernel_rfl
theorem en_69 : entersB Tryz.prog 69 = true := by kernel_rfl
theorem en_7 : entersB Tryz.prog 7 = true := by kernel_rfl
theorem en_70 : entersB Tryz.prog 70 = true := by kernel_rfl
theorem en_71 : entersB Tryz.prog 71 = true := by kernel_rfl
theorem en_72 : entersB Tryz.prog 72 = true := by kernel_rfl
theorem en_73 : entersB Tryz.prog 73 = true := by kernel_rfl
theorem en_74 : entersB Tryz.prog 74 = true := by kernel_rfl
theorem en_75 : entersB Tryz.prog 75 = true := by kernel_rfl
theorem en_76 : entersB Tryz.prog 76 = true := by kernel_rfl
theorem en_77 : entersB Tryz.prog 77 = true := by kernel_rfl
theorem en_78 : entersB Tryz.prog 78 = true := by kernel_rfl
theorem en_79 : entersB Tryz.prog 79 = true := by kernel_rfl
theorem en_8 : entersB Tryz.prog 8 = true := by kernel_rfl
theorem en_80 : entersB Tryz.prog 80 = true := by kernel_rfl
theorem en_81 : entersB Tryz.prog 81 = true := by kernel_rfl
theorem en_82 : entersB Tryz.prog 82 = true := by kernel_rfl
theorem en_83 : entersB Tryz.prog 83 = true := by kernel_rfl
theorem en_84 : entersB Tryz.prog 84 = true := by kernel_rfl
theorem en_85 : entersB Tryz.prog 85 = true := by kernel_rfl
theorem en_86 : entersB Tryz.prog 86 = true := by kernel_rfl
theorem en_87 : entersB Tryz.prog 87 = true := by kernel_rfl
theorem en_88 : entersB Tryz.prog 88 = true := by kernel_rfl
theorem en_89 : entersB Tryz.prog 89 = true := by kernel_rfl
theorem en_9 : entersB Tryz.prog 9 = true := by kernel_rfl
theorem en_90 : entersB Tryz.prog 90 = true := by kernel_rfl
theorem en_91 : entersB Tryz.prog 91 = true := by kernel_rfl
theorem en_92 : entersB Tryz.prog 92 = true := by kernel_rfl
theorem en_93 : entersB Tryz.prog 93 = true := by kernel_rfl
theorem en_94 : entersB Tryz.prog 94 = true := by kernel_rfl
theorem en_95 : entersB Tryz.prog 95 = true := by kernel_rfl
theorem en_96 : entersB Tryz.prog 96 = true := by kernel_rfl
theorem en_97 : entersB Tryz.prog 97 = true := by kernel_rfl
theorem en_98 : entersB Tryz.prog 98 = true := by kernel_rfl
theorem en_99 : entersB Tryz.prog 99 = true := by kernel_rfl
theorem es_131 : elemSize Tryz.prog 131 = some (9, 1) := by kernel_rfl
theorem es_206 : elemSize Tryz.prog 206 = some (58, 1) := by kernel_rfl
theorem es_218 : elemSize Tryz.prog 218 = some (30, 1) := by kernel_rfl
theorem es_229 : elemSize Tryz.prog 229 = some (3, 1) := by kernel_rfl
theorem es_232 : elemSize Tryz.prog 232 = some (2, 1) := by kernel_rfl
theorem es_29 : elemSize Tryz.prog 29 = some (110, 4) := by kernel_rfl
theorem es_30 : elemSize Tryz.prog 30 = some (41, 3) := by kernel_rfl
theorem es_33 : elemSize Tryz.prog 33 = some (114, 7) := by kernel_rfl
theorem es_49 : elemSize Tryz.prog 49 = some (96, 4) := by kernel_rfl
theorem es_52 : elemSize Tryz.prog 52 = some (101, 7) := by kernel_rfl
theorem es_70 : elemSize Tryz.prog 70 = some (129, 2) := by kernel_rfl
theorem es_74 : elemSize Tryz.prog 74 = some (128, 2) := by kernel_rfl
theorem fo_101_0 : fieldOff Tryz.prog 101 0 = some 0 := by kernel_rfl
theorem fo_101_1 : fieldOff Tryz.prog 101 1 = some 3 := by kernel_rfl
theorem fo_101_2 : fieldOff Tryz.prog 101 2 = some 4 := by kernel_rfl
theorem fo_101_3 : fieldOff Tryz.prog 101 3 = some 5 := by kernel_rfl
theorem fo_110_0 : fieldOff Tryz.prog 110 0 = some 0 := by kernel_rfl
theorem fo_110_1 : fieldOff Tryz.prog 110 1 = some 3 := by kernel_rfl
theorem fo_114_0 : fieldOff Tryz.prog 114 0 = some 0 := by kernel_rfl
theorem fo_114_1 : fieldOff Tryz.prog 114 1 = some 3 := by kernel_rfl
theorem fo_114_2 : fieldOff Tryz.prog 114 2 = some 4 := by kernel_rfl
theorem fo_114_3 : fieldOff Tryz.prog 114 3 = some 5 := by kernel_rfl
theorem fo_128_0 : fieldOff Tryz.prog 128 0 = some 0 := by kernel_rfl
theorem fo_128_1 : fieldOff Tryz.prog 128 1 = some 1 := by kernel_rfl
theorem fo_129_0 : fieldOff Tryz.prog 129 0 = some 0 := by kernel_rfl
theorem fo_140_0 : fieldOff Tryz.prog 140 0 = some 0 := by kernel_rfl
theorem fo_140_1 : fieldOff Tryz.prog 140 1 = some 1 := by kernel_rfl
theorem fo_140_2 : fieldOff Tryz.prog 140 2 = some 2 := by kernel_rfl
theorem fo_144_0 : fieldOff Tryz.prog 144 0 = some 0 := by kernel_rfl
theorem fo_144_1 : fieldOff Tryz.prog 144 1 = some 1 := by kernel_rfl
theorem fo_144_2 : fieldOff Tryz.prog 144 2 = some 2 := by kernel_rfl
theorem fo_144_3 : fieldOff Tryz.prog 144 3 = some 3 := by kernel_rfl
theorem fo_178_0 : fieldOff Tryz.prog 178 0 = some 0 := by kernel_rfl
theorem fo_178_1 : fieldOff Tryz.prog 178 1 = some 1 := by kernel_rfl
theorem fo_178_2 : fieldOff Tryz.prog 178 2 = some 2 := by kernel_rfl
theorem fo_24_0 : fieldOff Tryz.prog 24 0 = some 0 := by kernel_rfl
theorem fo_24_1 : fieldOff Tryz.prog 24 1 = some 1 := by kernel_rfl
theorem fo_26_0 : fieldOff Tryz.prog 26 0 = some 0 := by kernel_rfl
theorem fo_26_1 : fieldOff Tryz.prog 26 1 = some 1 := by kernel_rfl
theorem fo_28_0 : fieldOff Tryz.prog 28 0 = some 0 := by kernel_rfl
theorem fo_28_1 : fieldOff Tryz.prog 28 1 = some 1 := by kernel_rfl
theorem fo_32_0 : fieldOff Tryz.prog 32 0 = some 0 := by kernel_rfl
theorem fo_32_1 : fieldOff Tryz.prog 32 1 = some 1 := by kernel_rfl
theorem fo_35_0 : fieldOff Tryz.prog 35 0 = some 0 := by kernel_rfl
theorem fo_35_1 : fieldOff Tryz.prog 35 1 = some 1 := by kernel_rfl
theorem fo_37_0 : fieldOff Tryz.prog 37 0 = some 0 := by kernel_rfl
theorem fo_37_1 : fieldOff Tryz.prog 37 1 = some 1 := by kernel_rfl
theorem fo_37_2 : fieldOff Tryz.prog 37 2 = some 4 := by kernel_rfl
theorem fo_37_3 : fieldOff Tryz.prog 37 3 = some 6 := by kernel_rfl
theorem fo_37_4 : fieldOff Tryz.prog 37 4 = some 8 := by kernel_rfl
theorem fo_39_0 : fieldOff Tryz.prog 39 0 = some 0 := by kernel_rfl
theorem fo_39_1 : fieldOff Tryz.prog 39 1 = some 1 := by kernel_rfl
theorem fo_41_0 : fieldOff Tryz.prog 41 0 = some 0 := by kernel_rfl
theorem fo_41_1 : fieldOff Tryz.prog 41 1 = some 2 := by kernel_rfl
theorem fo_43_0 : fieldOff Tryz.prog 43 0 = some 0 := by kernel_rfl
theorem fo_43_1 : fieldOff Tryz.prog 43 1 = some 1 := by kernel_rfl
theorem fo_43_2 : fieldOff Tryz.prog 43 2 = some 2 := by kernel_rfl
theorem fo_43_3 : fieldOff Tryz.prog 43 3 = some 3 := by kernel_rfl
theorem fo_43_4 : fieldOff Tryz.prog 43 4 = some 6 := by kernel_rfl
theorem fo_43_5 : fieldOff Tryz.prog 43 5 = some 8 := by kernel_rfl
theorem fo_47_0 : fieldOff Tryz.prog 47 0 = some 0 := by kernel_rfl
theorem fo_47_1 : fieldOff Tryz.prog 47 1 = some 1 := by kernel_rfl
theorem fo_48_0 : fieldOff Tryz.prog 48 0 = some 0 := by kernel_rfl
theorem fo_48_1 : fieldOff Tryz.prog 48 1 = some 1 := by kernel_rfl
theorem fo_51_0 : fieldOff Tryz.prog 51 0 = some 0 := by kernel_rfl
theorem fo_51_1 : fieldOff Tryz.prog 51 1 = some 1 := by kernel_rfl
theorem fo_54_0 : fieldOff Tryz.prog 54 0 = some 0 := by kernel_rfl
theorem fo_54_1 : fieldOff Tryz.prog 54 1 = some 1 := by kernel_rfl
theorem fo_56_0 : fieldOff Tryz.prog 56 0 = some 0 := by kernel_rfl
theorem fo_56_1 : fieldOff Tryz.prog 56 1 = some 1 := by kernel_rfl
theorem fo_56_2 : fieldOff Tryz.prog 56 2 = some 4 := by kernel_rfl
theorem fo_56_3 : fieldOff Tryz.prog 56 3 = some 6 := by kernel_rfl
theorem fo_56_4 : fieldOff Tryz.prog 56 4 = some 8 := by kernel_rfl
theorem fo_61_0 : fieldOff Tryz.prog 61 0 = some 0 := by kernel_rfl
theorem fo_61_1 : fieldOff Tryz.prog 61 1 = some 1 := by kernel_rfl
theorem fo_61_2 : fieldOff Tryz.prog 61 2 = some 2 := by kernel_rfl
theorem fo_61_3 : fieldOff Tryz.prog 61 3 = some 3 := by kernel_rfl
theorem fo_61_4 : fieldOff Tryz.prog 61 4 = some 6 := by kernel_rfl
theorem fo_61_5 : fieldOff Tryz.prog 61 5 = some 8 := by kernel_rfl
theorem fo_72_0 : fieldOff Tryz.prog 72 0 = some 0 := by kernel_rfl
theorem fo_72_1 : fieldOff Tryz.prog 72 1 = some 1 := by kernel_rfl
theorem fo_72_2 : fieldOff Tryz.prog 72 2 = some 2 := by kernel_rfl
theorem fo_76_0 : fieldOff Tryz.prog 76 0 = some 0 := by kernel_rfl
theorem fo_76_1 : fieldOff Tryz.prog 76 1 = some 1 := by kernel_rfl
theorem fo_76_2 : fieldOff Tryz.prog 76 2 = some 2 := by kernel_rfl
theorem fo_96_0 : fieldOff Tryz.prog 96 0 = some 0 := by kernel_rfl
theorem fo_96_1 : fieldOff Tryz.prog 96 1 = some 3 := by kernel_rfl
theorem mx_0 : Tryz.prog.follows .mixedOrders = true := by kernel_rfl
theorem pl_2 : plainB Tryz.prog 2 = true := by kernel_rfl
theorem pl_22 : plainB Tryz.prog 22 = true := by kernel_rfl
theorem pl_29 : plainB Tryz.prog 29 = true := by kernel_rfl
theorem pl_3 : plainB Tryz.prog 3 = true := by kernel_rfl
theorem pl_30 : plainB Tryz.prog 30 = true := by kernel_rfl
theorem pl_33 : plainB Tryz.prog 33 = true := by kernel_rfl
theorem pl_4 : plainB Tryz.prog 4 = true := by kernel_rfl
theorem pl_49 : plainB Tryz.prog 49 = true := by kernel_rfl
theorem pl_52 : plainB Tryz.prog 52 = true := by kernel_rfl
theorem pl_58 : plainB Tryz.prog 58 = true := by kernel_rfl
theorem pl_70 : plainB Tryz.prog 70 = true := by kernel_rfl
theorem pl_74 : plainB Tryz.prog 74 = true := by kernel_rfl
theorem pl_9 : plainB Tryz.prog 9 = true := by kernel_rfl
theorem ps_101 : placesOf Tryz.prog 101 = some [(0, 3), (3, 1), (4, 1), (5, 2)] := by kernel_rfl
theorem ps_110 : placesOf Tryz.prog 110 = some [(0, 3), (3, 1)] := by kernel_rfl
theorem ps_114 : placesOf Tryz.prog 114 = some [(0, 3), (3, 1), (4, 1), (5, 2)] := by kernel_rfl
theorem ps_128 : placesOf Tryz.prog 128 = some [(0, 1), (1, 1)] := by kernel_rfl
theorem ps_129 : placesOf Tryz.prog 129 = some [(0, 1), (1, 1)] := by kernel_rfl
theorem ps_140 : placesOf Tryz.prog 140 = some [(0, 1), (1, 1), (2, 1)] := by kernel_rfl
theorem ps_178 : placesOf Tryz.prog 178 = some [(0, 1), (1, 1), (2, 1)] := by kernel_rfl
theorem ps_24 : placesOf Tryz.prog 24 = some [(0, 1), (1, 1)] := by kernel_rfl
theorem ps_26 : placesOf Tryz.prog 26 = some [(0, 1), (1, 2)] := by kernel_rfl
theorem ps_28 : placesOf Tryz.prog 28 = some [(0, 1), (1, 1)] := by kernel_rfl
theorem ps_32 : placesOf Tryz.prog 32 = some [(0, 1), (1, 1)] := by kernel_rfl
theorem ps_35 : placesOf Tryz.prog 35 = some [(0, 1), (1, 1)] := by kernel_rfl
theorem ps_37 : placesOf Tryz.prog 37 = some [(0, 1), (1, 3), (4, 2), (6, 2), (8, 2)] := by kernel_rfl
theorem ps_47 : placesOf Tryz.prog 47 = some [(0, 1), (1, 2)] := by kernel_rfl
theorem ps_48 : placesOf Tryz.prog 48 = some [(0, 1), (1, 1)] := by kernel_rfl
theorem ps_51 : placesOf Tryz.prog 51 = some [(0, 1), (1, 1)] := by kernel_rfl
theorem ps_54 : placesOf Tryz.prog 54 = some [(0, 1), (1, 1)] := by kernel_rfl
theorem ps_56 : placesOf Tryz.prog 56 = some [(0, 1), (1, 3), (4, 2), (6, 2), (8, 2)] := by kernel_rfl
theorem ps_61 : placesOf Tryz.prog 61 = some [(0, 1), (1, 1), (2, 1), (3, 3), (6, 2), (8, 1)] := by kernel_rfl
theorem ps_72 : placesOf Tryz.prog 72 = some [(0, 1), (1, 1), (2, 1)] := by kernel_rfl
theorem ps_76 : placesOf Tryz.prog 76 = some [(0, 1), (1, 1), (2, 1)] := by kernel_rfl
theorem ps_96 : placesOf Tryz.prog 96 = some [(0, 3), (3, 1)] := by kernel_rfl
theorem sz_101 : (Tryz.prog.info? 101).map (·.size) = some 7 := by kernel_rfl
theorem sz_114 : (Tryz.prog.info? 114).map (·.size) = some 7 := by kernel_rfl
theorem sz_128 : (Tryz.prog.info? 128).map (·.size) = some 2 := by kernel_rfl
theorem sz_144 : (Tryz.prog.info? 144).map (·.size) = some 4 := by kernel_rfl
theorem sz_2 : (Tryz.prog.info? 2).map (·.size) = some 1 := by kernel_rfl
theorem sz_26 : (Tryz.prog.info? 26).map (·.size) = some 3 := by kernel_rfl
theorem sz_28 : (Tryz.prog.info? 28).map (·.size) = some 2 := by kernel_rfl
theorem sz_29 : (Tryz.prog.info? 29).map (·.size) = some 1 := by kernel_rfl
theorem sz_30 : (Tryz.prog.info? 30).map (·.size) = some 1 := by kernel_rfl
theorem sz_32 : (Tryz.prog.info? 32).map (·.size) = some 2 := by kernel_rfl
theorem sz_33 : (Tryz.prog.info? 33).map (·.size) = some 1 := by kernel_rfl
theorem sz_35 : (Tryz.prog.info? 35).map (·.size) = some 2 := by kernel_rfl
theorem sz_37 : (Tryz.prog.info? 37).map (·.size) = some 10 := by kernel_rfl
theorem sz_4 : (Tryz.prog.info? 4).map (·.size) = some 1 := by kernel_rfl
theorem sz_41 : (Tryz.prog.info? 41).map (·.size) = some 3 := by kernel_rfl
theorem sz_47 : (Tryz.prog.info? 47).map (·.size) = some 3 := by kernel_rfl
theorem sz_48 : (Tryz.prog.info? 48).map (·.size) = some 2 := by kernel_rfl
theorem sz_49 : (Tryz.prog.info? 49).map (·.size) = some 1 := by kernel_rfl
theorem sz_51 : (Tryz.prog.info? 51).map (·.size) = some 2 := by kernel_rfl
theorem sz_52 : (Tryz.prog.info? 52).map (·.size) = some 1 := by kernel_rfl
theorem sz_54 : (Tryz.prog.info? 54).map (·.size) = some 2 := by kernel_rfl
theorem sz_56 : (Tryz.prog.info? 56).map (·.size) = some 10 := by kernel_rfl
theorem sz_61 : (Tryz.prog.info? 61).map (·.size) = some 9 := by kernel_rfl
theorem sz_70 : (Tryz.prog.info? 70).map (·.size) = some 1 := by kernel_rfl
theorem sz_72 : (Tryz.prog.info? 72).map (·.size) = some 3 := by kernel_rfl
theorem sz_74 : (Tryz.prog.info? 74).map (·.size) = some 1 := by kernel_rfl
theorem sz_76 : (Tryz.prog.info? 76).map (·.size) = some 3 := by kernel_rfl
theorem sz_9 : (Tryz.prog.info? 9).map (·.size) = some 1 := by kernel_rfl
theorem sz_96 : (Tryz.prog.info? 96).map (·.size) = some 4 := by kernel_rfl
theorem zc_101 : zeroCells Tryz.prog 101 = some ([.int .i64 0, .int .u32 0, .int .i64 0, .string ⟨#[]⟩, .int .i64 0, .int .u32 0, .int .i64 0]) := by kernel_rfl
theorem zc_110 : zeroCells Tryz.prog 110 = some ([.int .i64 0, .int .u32 0, .int .i64 0, .string ⟨#[]⟩]) := by kernel_rfl
theorem zc_114 : zeroCells Tryz.prog 114 = some ([.int .i64 0, .int .u32 0, .int .i64 0, .string ⟨#[]⟩, .int .i64 0, .int .u32 0, .int .i64 0]) := by kernel_rfl
theorem zc_128 : zeroCells Tryz.prog 128 = some ([.string ⟨#[]⟩, .int .i64 0]) := by kernel_rfl
theorem zc_129 : zeroCells Tryz.prog 129 = some ([.string ⟨#[]⟩, .int .i64 0]) := by kernel_rfl
theorem zc_140 : zeroCells Tryz.prog 140 = some ([.int .i64 0, .string ⟨#[]⟩, .int .i64 0]) := by kernel_rfl
theorem zc_144 : zeroCells Tryz.prog 144 = some ([.bool false, .bool false, .bool false, .bool false]) := by kernel_rfl
theorem zc_178 : zeroCells Tryz.prog 178 = some ([.int .i64 0, .string ⟨#[]⟩, .int .i64 0]) := by kernel_rfl
theorem zc_2 : zeroCells Tryz.prog 2 = some ([.int .i64 0]) := by kernel_rfl
theorem zc_209 : zeroCells Tryz.prog 209 = some (List.replicate 2 (.int .i64 0)) := by kernel_rfl
theorem zc_24 : zeroCells Tryz.prog 24 = some ([.int .u32 0, .int .i64 0]) := by kernel_rfl
theorem zc_26 : zeroCells Tryz.prog 26 = some ([.int .i64 0, .int .u32 0, .int .i64 0]) := by kernel_rfl
theorem zc_28 : zeroCells Tryz.prog 28 = some ([.int .i64 0, .int .i64 0]) := by kernel_rfl
theorem zc_3 : zeroCells Tryz.prog 3 = some ([.int .i64 0]) := by kernel_rfl
theorem zc_30 : zeroCells Tryz.prog 30 = some ([.slice none 0 0]) := by kernel_rfl
theorem zc_32 : zeroCells Tryz.prog 32 = some ([.slice none 0 0, .slice none 0 0]) := by kernel_rfl
theorem zc_35 : zeroCells Tryz.prog 35 = some ([.slice none 0 0, .slice none 0 0]) := by kernel_rfl
theorem zc_37 : zeroCells Tryz.prog 37 = some ([.int .i64 0, .int .i64 0, .int .u32 0, .int .i64 0, .int .i64 0, .int .i64 0, .slice none 0 0, .slice none 0 0, .slice none 0 0, .slice none 0 0]) := by kernel_rfl
theorem zc_41 : zeroCells Tryz.prog 41 = some ([.int .i64 0, .int .u32 0, .int .i64 0]) := by kernel_rfl
theorem zc_47 : zeroCells Tryz.prog 47 = some ([.int .i64 0, .int .u32 0, .int .i64 0]) := by kernel_rfl
theorem zc_48 : zeroCells Tryz.prog 48 = some ([.int .i64 0, .int .i64 0]) := by kernel_rfl
theorem zc_51 : zeroCells Tryz.prog 51 = some ([.slice none 0 0, .slice none 0 0]) := by kernel_rfl
theorem zc_54 : zeroCells Tryz.prog 54 = some ([.slice none 0 0, .slice none 0 0]) := by kernel_rfl
theorem zc_56 : zeroCells Tryz.prog 56 = some ([.int .i64 0, .int .i64 0, .int .u32 0, .int .i64 0, .int .i64 0, .int .i64 0, .slice none 0 0, .slice none 0 0, .slice none 0 0, .slice none 0 0]) := by kernel_rfl
theorem zc_58 : zeroCells Tryz.prog 58 = some ([.int .i64 0]) := by kernel_rfl
theorem zc_61 : zeroCells Tryz.prog 61 = some ([.int .i64 0, .string ⟨#[]⟩, .int .i64 0, .int .i64 0, .int .u32 0, .int .i64 0, .int .u32 0, .int .i64 0, .slice none 0 0]) := by kernel_rfl
theorem zc_72 : zeroCells Tryz.prog 72 = some ([.int .i64 0, .int .i64 0, .slice none 0 0]) := by kernel_rfl
theorem zc_76 : zeroCells Tryz.prog 76 = some ([.int .i64 0, .int .i64 0, .slice none 0 0]) := by kernel_rfl
theorem zc_9 : zeroCells Tryz.prog 9 = some ([.string ⟨#[]⟩]) := by kernel_rfl
theorem zc_96 : zeroCells Tryz.prog 96 = some ([.int .i64 0, .int .u32 0, .int .i64 0, .string ⟨#[]⟩]) := by kernel_rfl
end Ty
end Go.Proofs.YtmenpoicgoijcaaGreat
