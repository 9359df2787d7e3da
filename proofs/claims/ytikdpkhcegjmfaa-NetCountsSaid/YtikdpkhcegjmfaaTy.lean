/- Closed facts on the types and functions of this seat's program, printed by gen.py. -/
import Derived.Test.YtikdpkhcegjmfaaSq
import Derived.Test.YtikdpkhcegjmfaaRows
namespace Go.Proofs.Ytikdpkhcegjmfaa
namespace Ty
theorem ag_106 : aggSize Try.prog 106 = some 64 := by kernel_rfl
theorem ag_107 : aggSize Try.prog 107 = some 6 := by kernel_rfl
theorem ag_124 : aggSize Try.prog 124 = some 5 := by kernel_rfl
theorem ag_25 : aggSize Try.prog 25 = some 4 := by kernel_rfl
theorem ag_29 : aggSize Try.prog 29 = some 4 := by kernel_rfl
theorem ag_46 : aggSize Try.prog 46 = some 3 := by kernel_rfl
theorem ag_48 : aggSize Try.prog 48 = some 6 := by kernel_rfl
theorem ag_51 : aggSize Try.prog 51 = some 3 := by kernel_rfl
theorem ag_75 : aggSize Try.prog 75 = some 8 := by kernel_rfl
theorem ar_106 : arrSize Try.prog 106 = some (64, 1) := by kernel_rfl
theorem ar_107 : arrSize Try.prog 107 = some (6, 1) := by kernel_rfl
theorem ar_112 : arrSize Try.prog 112 = some (32, 1) := by kernel_rfl
theorem by_106 : (Try.prog.info? 106).map (·.bytes) = some 64 := by kernel_rfl
theorem by_3 : (Try.prog.info? 3).map (·.bytes) = some 8 := by kernel_rfl
theorem by_46 : (Try.prog.info? 46).map (·.bytes) = some 32 := by kernel_rfl
theorem by_51 : (Try.prog.info? 51).map (·.bytes) = some 32 := by kernel_rfl
theorem by_9 : (Try.prog.info? 9).map (·.bytes) = some 16 := by kernel_rfl
theorem eg_106 : Try.prog.eqGuardType Try.prog.depth 106 = false := by kernel_rfl
theorem eg_46 : Try.prog.eqGuardType Try.prog.depth 46 = false := by kernel_rfl
theorem en_11 : entersB Try.prog 11 = true := by kernel_rfl
theorem en_12 : entersB Try.prog 12 = true := by kernel_rfl
theorem en_13 : entersB Try.prog 13 = true := by kernel_rfl
theorem en_14 : entersB Try.prog 14 = true := by kernel_rfl
theorem en_15 : entersB Try.prog 15 = true := by kernel_rfl
theorem en_16 : entersB Try.prog 16 = true := by kernel_rfl
theorem en_17 : entersB Try.prog 17 = true := by kernel_rfl
theorem en_18 : entersB Try.prog 18 = true := by kernel_rfl
theorem en_19 : entersB Try.prog 19 = true := by kernel_rfl
theorem en_20 : entersB Try.prog 20 = true := by kernel_rfl
theorem en_21 : entersB Try.prog 21 = true := by kernel_rfl
theorem en_22 : entersB Try.prog 22 = true := by kernel_rfl
theorem en_23 : entersB Try.prog 23 = true := by kernel_rfl
theorem en_24 : entersB Try.prog 24 = true := by kernel_rfl
theorem en_25 : entersB Try.prog 25 = true := by kernel_rfl
theorem en_26 : entersB Try.prog 26 = true := by kernel_rfl
theorem en_27 : entersB Try.prog 27 = true := by kernel_rfl
theorem en_28 : entersB Try.prog 28 = true := by kernel_rfl
theorem en_29 : entersB Try.prog 29 = true := by kernel_rfl
theorem en_3 : entersB Try.prog 3 = true := by kernel_rfl
theorem en_30 : entersB Try.prog 30 = true := by kernel_rfl
theorem en_31 : entersB Try.prog 31 = true := by kernel_rfl
theorem en_32 : entersB Try.prog 32 = true := by kernel_rfl
theorem en_33 : entersB Try.prog 33 = true := by kernel_rfl
theorem en_34 : entersB Try.prog 34 = true := by kernel_rfl
theorem en_35 : entersB Try.prog 35 = true := by kernel_rfl
theorem en_36 : entersB Try.prog 36 = true := by kernel_rfl
theorem en_37 : entersB Try.prog 37 = true := by kernel_rfl
theorem en_38 : entersB Try.prog 38 = true := by kernel_rfl
theorem en_39 : entersB Try.prog 39 = true := by kernel_rfl
theorem en_4 : entersB Try.prog 4 = true := by kernel_rfl
theorem en_40 : entersB Try.prog 40 = true := by kernel_rfl
theorem en_41 : entersB Try.prog 41 = true := by kernel_rfl
theorem en_42 : entersB Try.prog 42 = true := by kernel_rfl
theorem en_43 : entersB Try.prog 43 = true := by kernel_rfl
theorem en_44 : entersB Try.prog 44 = true := by kernel_rfl
theorem en_45 : entersB Try.prog 45 = true := by kernel_rfl
theorem en_46 : entersB Try.prog 46 = true := by kernel_rfl
theorem en_47 : entersB Try.prog 47 = true := by kernel_rfl
theorem en_48 : entersB Try.prog 48 = true := by kernel_rfl
theorem en_49 : entersB Try.prog 49 = true := by kernel_rfl
theorem en_5 : entersB Try.prog 5 = true := by kernel_rfl
theorem en_50 : entersB Try.prog 50 = true := by kernel_rfl
theorem en_51 : entersB Try.prog 51 = true := by kernel_rfl
theorem en_52 : entersB Try.prog 52 = true := by kernel_rfl
theorem en_6 : entersB Try.prog 6 = true := by kernel_rfl
theorem en_69 : entersB Try.prog 69 = true := by kernel_rfl
theorem en_7 : entersB Try.prog 7 = true := by kernel_rfl
theorem en_70 : entersB Try.prog 70 = true := by kernel_rfl
theorem en_71 : entersB Try.prog 71 = true := by kernel_rfl
theorem en_72 : entersB Try.prog 72 = true := by kernel_rfl
theorem en_73 : entersB Try.prog 73 = true := by kernel_rfl
theorem en_74 : entersB Try.prog 74 = true := by kernel_rfl
theorem en_75 : entersB Try.prog 75 = true := by kernel_rfl
theorem en_76 : entersB Try.prog 76 = true := by kernel_rfl
theorem en_77 : entersB Try.prog 77 = true := by kernel_rfl
theorem en_78 : entersB Try.prog 78 = true := by kernel_rfl
theorem en_79 : entersB Try.prog 79 = true := by kernel_rfl
theorem en_80 : entersB Try.prog 80 = true := by kernel_rfl
theorem en_81 : entersB Try.prog 81 = true := by kernel_rfl
theorem en_82 : entersB Try.prog 82 = true := by kernel_rfl
theorem en_83 : entersB Try.prog 83 = true := by kernel_rfl
theorem en_84 : entersB Try.prog 84 = true := by kernel_rfl
theorem en_85 : entersB Try.prog 85 = true := by kernel_rfl
theorem en_86 : entersB Try.prog 86 = true := by kernel_rfl
theorem en_87 : entersB Try.prog 87 = true := by kernel_rfl
theorem es_102 : elemSize Try.prog 102 = some (5, 1) := by kernel_rfl
theorem es_113 : elemSize Try.prog 113 = some (51, 3) := by kernel_rfl
theorem es_116 : elemSize Try.prog 116 = some (46, 3) := by kernel_rfl
theorem es_122 : elemSize Try.prog 122 = some (106, 64) := by kernel_rfl
theorem es_38 : elemSize Try.prog 38 = some (48, 6) := by kernel_rfl
theorem es_66 : elemSize Try.prog 66 = some (75, 8) := by kernel_rfl
theorem es_73 : elemSize Try.prog 73 = some (3, 1) := by kernel_rfl
theorem es_89 : elemSize Try.prog 89 = some (9, 1) := by kernel_rfl
theorem fo_115_0 : fieldOff Try.prog 115 0 = some 0 := by kernel_rfl
theorem fo_115_1 : fieldOff Try.prog 115 1 = some 1 := by kernel_rfl
theorem fo_115_2 : fieldOff Try.prog 115 2 = some 33 := by kernel_rfl
theorem fo_115_3 : fieldOff Try.prog 115 3 = some 34 := by kernel_rfl
theorem fo_118_0 : fieldOff Try.prog 118 0 = some 0 := by kernel_rfl
theorem fo_118_1 : fieldOff Try.prog 118 1 = some 1 := by kernel_rfl
theorem fo_118_2 : fieldOff Try.prog 118 2 = some 2 := by kernel_rfl
theorem fo_124_0 : fieldOff Try.prog 124 0 = some 0 := by kernel_rfl
theorem fo_124_1 : fieldOff Try.prog 124 1 = some 1 := by kernel_rfl
theorem fo_124_2 : fieldOff Try.prog 124 2 = some 2 := by kernel_rfl
theorem fo_124_3 : fieldOff Try.prog 124 3 = some 3 := by kernel_rfl
theorem fo_124_4 : fieldOff Try.prog 124 4 = some 4 := by kernel_rfl
theorem fo_126_0 : fieldOff Try.prog 126 0 = some 0 := by kernel_rfl
theorem fo_126_1 : fieldOff Try.prog 126 1 = some 1 := by kernel_rfl
theorem fo_126_2 : fieldOff Try.prog 126 2 = some 2 := by kernel_rfl
theorem fo_126_3 : fieldOff Try.prog 126 3 = some 3 := by kernel_rfl
theorem fo_126_4 : fieldOff Try.prog 126 4 = some 4 := by kernel_rfl
theorem fo_25_0 : fieldOff Try.prog 25 0 = some 0 := by kernel_rfl
theorem fo_25_1 : fieldOff Try.prog 25 1 = some 1 := by kernel_rfl
theorem fo_25_2 : fieldOff Try.prog 25 2 = some 2 := by kernel_rfl
theorem fo_25_3 : fieldOff Try.prog 25 3 = some 3 := by kernel_rfl
theorem fo_29_0 : fieldOff Try.prog 29 0 = some 0 := by kernel_rfl
theorem fo_29_1 : fieldOff Try.prog 29 1 = some 1 := by kernel_rfl
theorem fo_29_2 : fieldOff Try.prog 29 2 = some 2 := by kernel_rfl
theorem fo_29_3 : fieldOff Try.prog 29 3 = some 3 := by kernel_rfl
theorem fo_46_0 : fieldOff Try.prog 46 0 = some 0 := by kernel_rfl
theorem fo_46_1 : fieldOff Try.prog 46 1 = some 1 := by kernel_rfl
theorem fo_46_2 : fieldOff Try.prog 46 2 = some 2 := by kernel_rfl
theorem fo_48_0 : fieldOff Try.prog 48 0 = some 0 := by kernel_rfl
theorem fo_48_1 : fieldOff Try.prog 48 1 = some 1 := by kernel_rfl
theorem fo_48_2 : fieldOff Try.prog 48 2 = some 4 := by kernel_rfl
theorem fo_48_3 : fieldOff Try.prog 48 3 = some 5 := by kernel_rfl
theorem fo_51_0 : fieldOff Try.prog 51 0 = some 0 := by kernel_rfl
theorem fo_51_1 : fieldOff Try.prog 51 1 = some 1 := by kernel_rfl
theorem fo_51_2 : fieldOff Try.prog 51 2 = some 2 := by kernel_rfl
theorem fo_75_0 : fieldOff Try.prog 75 0 = some 0 := by kernel_rfl
theorem fo_75_1 : fieldOff Try.prog 75 1 = some 1 := by kernel_rfl
theorem fo_75_2 : fieldOff Try.prog 75 2 = some 2 := by kernel_rfl
theorem fo_75_3 : fieldOff Try.prog 75 3 = some 3 := by kernel_rfl
theorem fo_75_4 : fieldOff Try.prog 75 4 = some 7 := by kernel_rfl
theorem mx_0 : Try.prog.follows .mixedOrders = true := by kernel_rfl
theorem pl_113 : plainB Try.prog 113 = true := by kernel_rfl
theorem pl_116 : plainB Try.prog 116 = true := by kernel_rfl
theorem pl_122 : plainB Try.prog 122 = true := by kernel_rfl
theorem pl_22 : plainB Try.prog 22 = true := by kernel_rfl
theorem pl_23 : plainB Try.prog 23 = true := by kernel_rfl
theorem pl_3 : plainB Try.prog 3 = true := by kernel_rfl
theorem pl_4 : plainB Try.prog 4 = true := by kernel_rfl
theorem pl_5 : plainB Try.prog 5 = true := by kernel_rfl
theorem pl_73 : plainB Try.prog 73 = true := by kernel_rfl
theorem pl_89 : plainB Try.prog 89 = true := by kernel_rfl
theorem pl_9 : plainB Try.prog 9 = true := by kernel_rfl
theorem ps_115 : placesOf Try.prog 115 = some [(0, 1), (1, 32), (33, 1), (34, 1)] := by kernel_rfl
theorem ps_118 : placesOf Try.prog 118 = some [(0, 1), (1, 1), (2, 1)] := by kernel_rfl
theorem ps_124 : placesOf Try.prog 124 = some [(0, 1), (1, 1), (2, 1), (3, 1), (4, 1)] := by kernel_rfl
theorem ps_126 : placesOf Try.prog 126 = some [(0, 1), (1, 1), (2, 1), (3, 1), (4, 1)] := by kernel_rfl
theorem ps_25 : placesOf Try.prog 25 = some [(0, 1), (1, 1), (2, 1), (3, 1)] := by kernel_rfl
theorem ps_29 : placesOf Try.prog 29 = some [(0, 1), (1, 1), (2, 1), (3, 1)] := by kernel_rfl
theorem ps_46 : placesOf Try.prog 46 = some [(0, 1), (1, 1), (2, 1)] := by kernel_rfl
theorem ps_51 : placesOf Try.prog 51 = some [(0, 1), (1, 1), (2, 1)] := by kernel_rfl
theorem sz_106 : (Try.prog.info? 106).map (·.size) = some 64 := by kernel_rfl
theorem sz_107 : (Try.prog.info? 107).map (·.size) = some 6 := by kernel_rfl
theorem sz_113 : (Try.prog.info? 113).map (·.size) = some 1 := by kernel_rfl
theorem sz_116 : (Try.prog.info? 116).map (·.size) = some 1 := by kernel_rfl
theorem sz_122 : (Try.prog.info? 122).map (·.size) = some 1 := by kernel_rfl
theorem sz_124 : (Try.prog.info? 124).map (·.size) = some 5 := by kernel_rfl
theorem sz_23 : (Try.prog.info? 23).map (·.size) = some 1 := by kernel_rfl
theorem sz_25 : (Try.prog.info? 25).map (·.size) = some 4 := by kernel_rfl
theorem sz_29 : (Try.prog.info? 29).map (·.size) = some 4 := by kernel_rfl
theorem sz_3 : (Try.prog.info? 3).map (·.size) = some 1 := by kernel_rfl
theorem sz_4 : (Try.prog.info? 4).map (·.size) = some 1 := by kernel_rfl
theorem sz_46 : (Try.prog.info? 46).map (·.size) = some 3 := by kernel_rfl
theorem sz_48 : (Try.prog.info? 48).map (·.size) = some 6 := by kernel_rfl
theorem sz_5 : (Try.prog.info? 5).map (·.size) = some 1 := by kernel_rfl
theorem sz_51 : (Try.prog.info? 51).map (·.size) = some 3 := by kernel_rfl
theorem sz_75 : (Try.prog.info? 75).map (·.size) = some 8 := by kernel_rfl
theorem sz_89 : (Try.prog.info? 89).map (·.size) = some 1 := by kernel_rfl
theorem sz_9 : (Try.prog.info? 9).map (·.size) = some 1 := by kernel_rfl
theorem tg_25 : tagsOf Try.prog 25 = some [0, 0, 0, 1] := by kernel_rfl
theorem zc_106 : zeroCells Try.prog 106 = some (List.replicate 64 (.int .u8 0)) := by kernel_rfl
theorem zc_107 : zeroCells Try.prog 107 = some (List.replicate 6 (.int .u8 0)) := by kernel_rfl
theorem zc_115 : zeroCells Try.prog 115 = some ([.int .i64 0] ++ List.replicate 32 (.int .i64 0) ++ [.slice none 0 0, .int .i64 0]) := by kernel_rfl
theorem zc_118 : zeroCells Try.prog 118 = some ([.slice none 0 0, .slice none 0 0, .int .i64 0]) := by kernel_rfl
theorem zc_124 : zeroCells Try.prog 124 = some ([.slice none 0 0, .slice none 0 0, .bool false, .int .i64 0, .bool false]) := by kernel_rfl
theorem zc_126 : zeroCells Try.prog 126 = some ([.slice none 0 0, .slice none 0 0, .bool false, .int .i64 0, .bool false]) := by kernel_rfl
theorem zc_25 : zeroCells Try.prog 25 = some ([.int .u16 0, .int .u32 0, .int .u8 0, .string ⟨#[]⟩]) := by kernel_rfl
theorem zc_29 : zeroCells Try.prog 29 = some ([.int .u16 0, .int .u32 0, .int .u8 0, .string ⟨#[]⟩]) := by kernel_rfl
theorem zc_3 : zeroCells Try.prog 3 = some ([.int .i64 0]) := by kernel_rfl
theorem zc_46 : zeroCells Try.prog 46 = some ([.int .i64 0, .int .i64 0, .string ⟨#[]⟩]) := by kernel_rfl
theorem zc_48 : zeroCells Try.prog 48 = some ([.int .i64 0, .int .i64 0, .int .i64 0, .string ⟨#[]⟩, .int .i64 0, .int .i64 0]) := by kernel_rfl
theorem zc_5 : zeroCells Try.prog 5 = some ([.int .u8 0]) := by kernel_rfl
theorem zc_51 : zeroCells Try.prog 51 = some ([.int .i64 0, .int .i64 0, .string ⟨#[]⟩]) := by kernel_rfl
theorem zc_75 : zeroCells Try.prog 75 = some ([.int .i64 0, .int .i64 0, .string ⟨#[]⟩, .int .u16 0, .int .u32 0, .int .u8 0, .string ⟨#[]⟩, .slice none 0 0]) := by kernel_rfl
theorem zc_9 : zeroCells Try.prog 9 = some ([.string ⟨#[]⟩]) := by kernel_rfl
end Ty
end Go.Proofs.Ytikdpkhcegjmfaa
