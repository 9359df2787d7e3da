/- Closed facts on the types and functions of this seat's program, printed by gen.py. -/
import Derived.Test.YtcpfhnfpokijaaaSq
import Derived.Test.YtcpfhnfpokijaaaRows
namespace Go.Proofs.Ytcpfhnfpokijaaa
namespace Ty
theorem ag_60 : aggSize Try.prog 60 = some 4 := by kernel_rfl
theorem ag_72 : aggSize Try.prog 72 = some 3 := by kernel_rfl
theorem ag_82 : aggSize Try.prog 82 = some 64 := by kernel_rfl
theorem ag_89 : aggSize Try.prog 89 = some 6 := by kernel_rfl
theorem ar_101 : arrSize Try.prog 101 = some (9, 1) := by kernel_rfl
theorem ar_82 : arrSize Try.prog 82 = some (64, 1) := by kernel_rfl
theorem ar_89 : arrSize Try.prog 89 = some (6, 1) := by kernel_rfl
theorem by_3 : (Try.prog.info? 3).map (·.bytes) = some 8 := by kernel_rfl
theorem by_5 : (Try.prog.info? 5).map (·.bytes) = some 1 := by kernel_rfl
theorem by_82 : (Try.prog.info? 82).map (·.bytes) = some 64 := by kernel_rfl
theorem by_9 : (Try.prog.info? 9).map (·.bytes) = some 16 := by kernel_rfl
theorem eg_82 : Try.prog.eqGuardType Try.prog.depth 82 = false := by kernel_rfl
theorem en_10 : entersB Try.prog 10 = true := by kernel_rfl
theorem en_11 : entersB Try.prog 11 = true := by kernel_rfl
theorem en_12 : entersB Try.prog 12 = true := by kernel_rfl
theorem en_13 : entersB Try.prog 13 = true := by kernel_rfl
theorem en_14 : entersB Try.prog 14 = true := by kernel_rfl
theorem en_15 : entersB Try.prog 15 = true := by kernel_rfl
theorem en_16 : entersB Try.prog 16 = true := by kernel_rfl
theorem en_17 : entersB Try.prog 17 = true := by kernel_rfl
theorem en_18 : entersB Try.prog 18 = true := by kernel_rfl
theorem en_19 : entersB Try.prog 19 = true := by kernel_rfl
theorem en_20 : entersB Try.prog 20 = true := by kernel_rfl
theorem en_21 : entersB Try.prog 21 = true := by kernel_rfl
theorem en_22 : entersB Try.prog 22 = true := by kernel_rfl
theorem en_23 : entersB Try.prog 23 = true := by kernel_rfl
theorem en_24 : entersB Try.prog 24 = true := by kernel_rfl
theorem en_25 : entersB Try.prog 25 = true := by kernel_rfl
theorem en_26 : entersB Try.prog 26 = true := by kernel_rfl
theorem en_27 : entersB Try.prog 27 = true := by kernel_rfl
theorem en_28 : entersB Try.prog 28 = true := by kernel_rfl
theorem en_29 : entersB Try.prog 29 = true := by kernel_rfl
theorem en_3 : entersB Try.prog 3 = true := by kernel_rfl
theorem en_30 : entersB Try.prog 30 = true := by kernel_rfl
theorem en_31 : entersB Try.prog 31 = true := by kernel_rfl
theorem en_32 : entersB Try.prog 32 = true := by kernel_rfl
theorem en_33 : entersB Try.prog 33 = true := by kernel_rfl
theorem en_34 : entersB Try.prog 34 = true := by kernel_rfl
theorem en_35 : entersB Try.prog 35 = true := by kernel_rfl
theorem en_36 : entersB Try.prog 36 = true := by kernel_rfl
theorem en_37 : entersB Try.prog 37 = true := by kernel_rfl
theorem en_38 : entersB Try.prog 38 = true := by kernel_rfl
theorem en_39 : entersB Try.prog 39 = true := by kernel_rfl
theorem en_4 : entersB Try.prog 4 = true := by kernel_rfl
theorem en_40 : entersB Try.prog 40 = true := by kernel_rfl
theorem en_41 : entersB Try.prog 41 = true := by kernel_rfl
theorem en_42 : entersB Try.prog 42 = true := by kernel_rfl
theorem en_43 : entersB Try.prog 43 = true := by kernel_rfl
theorem en_44 : entersB Try.prog 44 = true := by kernel_rfl
theorem en_45 : entersB Try.prog 45 = true := by kernel_rfl
theorem en_46 : entersB Try.prog 46 = true := by kernel_rfl
theorem en_47 : entersB Try.prog 47 = true := by kernel_rfl
theorem en_48 : entersB Try.prog 48 = true := by kernel_rfl
theorem en_49 : entersB Try.prog 49 = true := by kernel_rfl
theorem en_5 : entersB Try.prog 5 = true := by kernel_rfl
theorem en_50 : entersB Try.prog 50 = true := by kernel_rfl
theorem en_51 : entersB Try.prog 51 = true := by kernel_rfl
theorem en_52 : entersB Try.prog 52 = true := by kernel_rfl
theorem en_53 : entersB Try.prog 53 = true := by kernel_rfl
theorem en_54 : entersB Try.prog 54 = true := by kernel_rfl
theorem en_55 : entersB Try.prog 55 = true := by kernel_rfl
theorem en_56 : entersB Try.prog 56 = true := by kernel_rfl
theorem en_57 : entersB Try.prog 57 = true := by kernel_rfl
theorem en_58 : entersB Try.prog 58 = true := by kernel_rfl
theorem en_59 : entersB Try.prog 59 = true := by kernel_rfl
theorem en_6 : entersB Try.prog 6 = true := by kernel_rfl
theorem en_60 : entersB Try.prog 60 = true := by kernel_rfl
theorem en_61 : entersB Try.prog 61 = true := by kernel_rfl
theorem en_62 : entersB Try.prog 62 = true := by kernel_rfl
theorem en_7 : entersB Try.prog 7 = true := by kernel_rfl
theorem en_8 : entersB Try.prog 8 = true := by kernel_rfl
theorem en_9 : entersB Try.prog 9 = true := by kernel_rfl
theorem es_22 : elemSize Try.prog 22 = some (9, 1) := by kernel_rfl
theorem es_45 : elemSize Try.prog 45 = some (5, 1) := by kernel_rfl
theorem es_49 : elemSize Try.prog 49 = some (82, 64) := by kernel_rfl
theorem es_79 : elemSize Try.prog 79 = some (3, 1) := by kernel_rfl
theorem fo_110_0 : fieldOff Try.prog 110 0 = some 0 := by kernel_rfl
theorem fo_110_1 : fieldOff Try.prog 110 1 = some 1 := by kernel_rfl
theorem fo_110_2 : fieldOff Try.prog 110 2 = some 2 := by kernel_rfl
theorem fo_51_0 : fieldOff Try.prog 51 0 = some 0 := by kernel_rfl
theorem fo_51_1 : fieldOff Try.prog 51 1 = some 1 := by kernel_rfl
theorem fo_51_2 : fieldOff Try.prog 51 2 = some 2 := by kernel_rfl
theorem fo_51_3 : fieldOff Try.prog 51 3 = some 3 := by kernel_rfl
theorem fo_51_4 : fieldOff Try.prog 51 4 = some 4 := by kernel_rfl
theorem fo_53_0 : fieldOff Try.prog 53 0 = some 0 := by kernel_rfl
theorem fo_53_1 : fieldOff Try.prog 53 1 = some 1 := by kernel_rfl
theorem fo_53_2 : fieldOff Try.prog 53 2 = some 2 := by kernel_rfl
theorem fo_53_3 : fieldOff Try.prog 53 3 = some 3 := by kernel_rfl
theorem fo_53_4 : fieldOff Try.prog 53 4 = some 4 := by kernel_rfl
theorem fo_53_5 : fieldOff Try.prog 53 5 = some 5 := by kernel_rfl
theorem fo_53_6 : fieldOff Try.prog 53 6 = some 6 := by kernel_rfl
theorem fo_53_7 : fieldOff Try.prog 53 7 = some 7 := by kernel_rfl
theorem fo_53_8 : fieldOff Try.prog 53 8 = some 8 := by kernel_rfl
theorem fo_60_0 : fieldOff Try.prog 60 0 = some 0 := by kernel_rfl
theorem fo_60_1 : fieldOff Try.prog 60 1 = some 1 := by kernel_rfl
theorem fo_60_2 : fieldOff Try.prog 60 2 = some 2 := by kernel_rfl
theorem fo_60_3 : fieldOff Try.prog 60 3 = some 3 := by kernel_rfl
theorem fo_72_0 : fieldOff Try.prog 72 0 = some 0 := by kernel_rfl
theorem fo_72_1 : fieldOff Try.prog 72 1 = some 1 := by kernel_rfl
theorem fo_72_2 : fieldOff Try.prog 72 2 = some 2 := by kernel_rfl
theorem fo_74_0 : fieldOff Try.prog 74 0 = some 0 := by kernel_rfl
theorem fo_74_1 : fieldOff Try.prog 74 1 = some 1 := by kernel_rfl
theorem fo_74_2 : fieldOff Try.prog 74 2 = some 2 := by kernel_rfl
theorem fo_74_3 : fieldOff Try.prog 74 3 = some 3 := by kernel_rfl
theorem fo_74_4 : fieldOff Try.prog 74 4 = some 4 := by kernel_rfl
theorem fo_74_5 : fieldOff Try.prog 74 5 = some 7 := by kernel_rfl
theorem mx_0 : Try.prog.follows .mixedOrders = true := by kernel_rfl
theorem pl_22 : plainB Try.prog 22 = true := by kernel_rfl
theorem pl_25 : plainB Try.prog 25 = true := by kernel_rfl
theorem pl_26 : plainB Try.prog 26 = true := by kernel_rfl
theorem pl_29 : plainB Try.prog 29 = true := by kernel_rfl
theorem pl_3 : plainB Try.prog 3 = true := by kernel_rfl
theorem pl_32 : plainB Try.prog 32 = true := by kernel_rfl
theorem pl_33 : plainB Try.prog 33 = true := by kernel_rfl
theorem pl_4 : plainB Try.prog 4 = true := by kernel_rfl
theorem pl_42 : plainB Try.prog 42 = true := by kernel_rfl
theorem pl_45 : plainB Try.prog 45 = true := by kernel_rfl
theorem pl_49 : plainB Try.prog 49 = true := by kernel_rfl
theorem pl_5 : plainB Try.prog 5 = true := by kernel_rfl
theorem pl_9 : plainB Try.prog 9 = true := by kernel_rfl
theorem pl_97 : plainB Try.prog 97 = true := by kernel_rfl
theorem ps_110 : placesOf Try.prog 110 = some [(0, 1), (1, 1), (2, 1)] := by kernel_rfl
theorem ps_51 : placesOf Try.prog 51 = some [(0, 1), (1, 1), (2, 1), (3, 1), (4, 1)] := by kernel_rfl
theorem ps_53 : placesOf Try.prog 53 = some [(0, 1), (1, 1), (2, 1), (3, 1), (4, 1), (5, 1), (6, 1), (7, 1), (8, 1)] := by kernel_rfl
theorem ps_60 : placesOf Try.prog 60 = some [(0, 1), (1, 1), (2, 1), (3, 1)] := by kernel_rfl
theorem ps_72 : placesOf Try.prog 72 = some [(0, 1), (1, 1), (2, 1)] := by kernel_rfl
theorem ps_74 : placesOf Try.prog 74 = some [(0, 1), (1, 1), (2, 1), (3, 1), (4, 3), (7, 1)] := by kernel_rfl
theorem sz_22 : (Try.prog.info? 22).map (·.size) = some 1 := by kernel_rfl
theorem sz_26 : (Try.prog.info? 26).map (·.size) = some 1 := by kernel_rfl
theorem sz_3 : (Try.prog.info? 3).map (·.size) = some 1 := by kernel_rfl
theorem sz_32 : (Try.prog.info? 32).map (·.size) = some 1 := by kernel_rfl
theorem sz_33 : (Try.prog.info? 33).map (·.size) = some 1 := by kernel_rfl
theorem sz_4 : (Try.prog.info? 4).map (·.size) = some 1 := by kernel_rfl
theorem sz_45 : (Try.prog.info? 45).map (·.size) = some 1 := by kernel_rfl
theorem sz_5 : (Try.prog.info? 5).map (·.size) = some 1 := by kernel_rfl
theorem sz_60 : (Try.prog.info? 60).map (·.size) = some 4 := by kernel_rfl
theorem sz_72 : (Try.prog.info? 72).map (·.size) = some 3 := by kernel_rfl
theorem sz_82 : (Try.prog.info? 82).map (·.size) = some 64 := by kernel_rfl
theorem sz_89 : (Try.prog.info? 89).map (·.size) = some 6 := by kernel_rfl
theorem sz_9 : (Try.prog.info? 9).map (·.size) = some 1 := by kernel_rfl
theorem zc_101 : zeroCells Try.prog 101 = some (List.replicate 9 (.int .u8 0)) := by kernel_rfl
theorem zc_110 : zeroCells Try.prog 110 = some ([.string ⟨#[]⟩, .int .i64 0, .nilIface]) := by kernel_rfl
theorem zc_22 : zeroCells Try.prog 22 = some ([.slice none 0 0]) := by kernel_rfl
theorem zc_26 : zeroCells Try.prog 26 = some ([.int .i64 0]) := by kernel_rfl
theorem zc_3 : zeroCells Try.prog 3 = some ([.int .i64 0]) := by kernel_rfl
theorem zc_33 : zeroCells Try.prog 33 = some ([.int .u16 0]) := by kernel_rfl
theorem zc_45 : zeroCells Try.prog 45 = some ([.slice none 0 0]) := by kernel_rfl
theorem zc_5 : zeroCells Try.prog 5 = some ([.int .u8 0]) := by kernel_rfl
theorem zc_51 : zeroCells Try.prog 51 = some ([.slice none 0 0, .slice none 0 0, .bool false, .int .i64 0, .bool false]) := by kernel_rfl
theorem zc_53 : zeroCells Try.prog 53 = some ([.pointer none, .int .i64 0, .int .i64 0, .int .u16 0, .int .u16 0, .int .u32 0, .int .u32 0, .int .u32 0, .bool false]) := by kernel_rfl
theorem zc_60 : zeroCells Try.prog 60 = some ([.int .u16 0, .int .u32 0, .int .u8 0, .string ⟨#[]⟩]) := by kernel_rfl
theorem zc_72 : zeroCells Try.prog 72 = some ([.int .u32 0, .int .u32 0, .string ⟨#[]⟩]) := by kernel_rfl
theorem zc_74 : zeroCells Try.prog 74 = some ([.pointer none, .int .i64 0, .int .i64 0, .int .u16 0, .int .u32 0, .int .u32 0, .string ⟨#[]⟩, .bool false]) := by kernel_rfl
theorem zc_82 : zeroCells Try.prog 82 = some (List.replicate 64 (.int .u8 0)) := by kernel_rfl
theorem zc_89 : zeroCells Try.prog 89 = some (List.replicate 6 (.int .u8 0)) := by kernel_rfl
theorem zc_9 : zeroCells Try.prog 9 = some ([.string ⟨#[]⟩]) := by kernel_rfl
end Ty
end Go.Proofs.Ytcpfhnfpokijaaa
