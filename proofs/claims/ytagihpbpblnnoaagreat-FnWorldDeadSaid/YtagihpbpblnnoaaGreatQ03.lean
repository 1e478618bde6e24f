import Derived.Test.YtagihpbpblnnoaaGreatQ02
import Derived.Test.YtagihpbpblnnoaaGreatProg
import Derived.KernelRfl
set_option linter.all false
namespace AH
open Go Go.Proofs
theorem mixed : Tryz.prog.follows .mixedOrders = true := by kernel_rfl
def ord0 : Nat → DOrd := fun _ => ⟨[], [], []⟩
theorem tyA3 : tyAgg Tryz.prog 3 = some (false, 1) := by kernel_rfl
theorem tyA4 : tyAgg Tryz.prog 4 = some (false, 1) := by kernel_rfl
theorem tyA5 : tyAgg Tryz.prog 5 = some (false, 1) := by kernel_rfl
theorem tyA22 : tyAgg Tryz.prog 22 = some (false, 1) := by kernel_rfl
theorem tyA24 : tyAgg Tryz.prog 24 = some (true, 3) := by kernel_rfl
theorem tyA28 : tyAgg Tryz.prog 28 = some (false, 1) := by kernel_rfl
theorem tyA29 : tyAgg Tryz.prog 29 = some (false, 1) := by kernel_rfl
theorem tyA31 : tyAgg Tryz.prog 31 = some (true, 2) := by kernel_rfl
theorem tyA35 : tyAgg Tryz.prog 35 = some (true, 6) := by kernel_rfl
theorem tyA36 : tyAgg Tryz.prog 36 = some (false, 1) := by kernel_rfl
theorem tyA39 : tyAgg Tryz.prog 39 = some (true, 9) := by kernel_rfl
theorem tyA42 : tyAgg Tryz.prog 42 = some (true, 4) := by kernel_rfl
theorem tyA43 : tyAgg Tryz.prog 43 = some (false, 1) := by kernel_rfl
theorem tyA45 : tyAgg Tryz.prog 45 = some (true, 26) := by kernel_rfl
theorem tyZ24 : tyZero Tryz.prog 24 = some [.int .i64 0, .int .i64 0, .int .i64 0] := by kernel_rfl
theorem tyZ31 : tyZero Tryz.prog 31 = some [.nils, .nils] := by kernel_rfl
theorem tyZ35 : tyZero Tryz.prog 35 = some [.int .i64 0, .int .i64 0, .int .i64 0, .int .i64 0, .int .i64 0, .int .i64 0] := by kernel_rfl
theorem tyZ39 : tyZero Tryz.prog 39 = some [.int .i64 0, .nils, .nils, .nils, .nils, .nils, .nils, .nils, .nils] := by kernel_rfl
theorem tyZ42 : tyZero Tryz.prog 42 = some [.int .i64 0, .int .i64 0, .int .i64 0, .int .i64 0] := by kernel_rfl
theorem tyZ45 : tyZero Tryz.prog 45 = some [.bool false, .int .i64 0, .int .i64 0, .bool false, .int .i64 0, .int .i64 0, .int .i64 0, .int .i64 0, .int .i64 0, .int .i64 0, .int .i64 0, .int .i64 0, .int .i64 0, .int .i64 0, .int .i64 0, .bool false, .int .i64 0, .int .u64 0, .int .u64 0, .int .u64 0, .int .u64 0, .nils, .nils, .int .i64 0, .int .i64 0, .int .i64 0] := by kernel_rfl
theorem tyZ131 : tyZero Tryz.prog 131 = some [.nils, .int .i64 0] := by kernel_rfl
theorem tyZ145 : tyZero Tryz.prog 145 = some [.nils, .int .i64 0, .int .i64 0, .int .i64 0, .bool false, .int .i64 0, .int .i64 0, .bool false, .int .i64 0, .int .i64 0, .int .i64 0, .int .i64 0, .int .i64 0, .int .i64 0, .int .i64 0, .int .i64 0, .int .i64 0, .int .i64 0, .int .i64 0, .bool false, .int .i64 0, .int .u64 0, .int .u64 0, .int .u64 0, .int .u64 0, .nils, .nils, .int .i64 0, .int .i64 0, .int .i64 0, .int .i64 0] := by kernel_rfl
theorem tyP24 : tyPlaces Tryz.prog 24 = some [(0, 1), (1, 1), (2, 1)] := by kernel_rfl
theorem tyP31 : tyPlaces Tryz.prog 31 = some [(0, 1), (1, 1)] := by kernel_rfl
theorem tyP35 : tyPlaces Tryz.prog 35 = some [(0, 1), (1, 1), (2, 1), (3, 1), (4, 1), (5, 1)] := by kernel_rfl
theorem tyP39 : tyPlaces Tryz.prog 39 = some [(0, 1), (1, 1), (2, 4), (6, 1), (7, 1), (8, 1)] := by kernel_rfl
theorem tyP42 : tyPlaces Tryz.prog 42 = some [(0, 1), (1, 1), (2, 1), (3, 1)] := by kernel_rfl
theorem tyP45 : tyPlaces Tryz.prog 45 = some [(0, 1), (1, 1), (2, 1), (3, 1), (4, 4), (8, 1), (9, 1), (10, 1), (11, 1), (12, 1), (13, 1), (14, 1), (15, 1), (16, 1), (17, 1), (18, 1), (19, 1), (20, 1), (21, 1), (22, 1), (23, 1), (24, 1), (25, 1)] := by kernel_rfl
theorem tyP131 : tyPlaces Tryz.prog 131 = some [(0, 1), (1, 1)] := by kernel_rfl
theorem tyP145 : tyPlaces Tryz.prog 145 = some [(0, 1), (1, 3), (4, 26), (30, 1)] := by kernel_rfl
theorem tyS22 : tySlice Tryz.prog 22 = some (1, 1, [.int .u8 0]) := by kernel_rfl
theorem tyS28 : tySlice Tryz.prog 28 = some (1, 8, [.int .u64 0]) := by kernel_rfl
theorem tyS29 : tySlice Tryz.prog 29 = some (26, 240, [.bool false, .int .i64 0, .int .i64 0, .bool false, .int .i64 0, .int .i64 0, .int .i64 0, .int .i64 0, .int .i64 0, .int .i64 0, .int .i64 0, .int .i64 0, .int .i64 0, .int .i64 0, .int .i64 0, .bool false, .int .i64 0, .int .u64 0, .int .u64 0, .int .u64 0, .int .u64 0, .nils, .nils, .int .i64 0, .int .i64 0, .int .i64 0]) := by kernel_rfl
theorem tyS36 : tySlice Tryz.prog 36 = some (1, 8, [.int .i64 0]) := by kernel_rfl
theorem tyS50 : tySlice Tryz.prog 50 = some (6, 48, [.int .i64 0, .int .i64 0, .int .i64 0, .int .i64 0, .int .i64 0, .int .i64 0]) := by kernel_rfl
theorem tyR37 : tyArr Tryz.prog 37 = some (4, 1) := by kernel_rfl
theorem tyF24_0 : tyField Tryz.prog 24 0 = some 0 := by kernel_rfl
theorem tyF24_1 : tyField Tryz.prog 24 1 = some 1 := by kernel_rfl
theorem tyF24_2 : tyField Tryz.prog 24 2 = some 2 := by kernel_rfl
theorem tyF31_0 : tyField Tryz.prog 31 0 = some 0 := by kernel_rfl
theorem tyF31_1 : tyField Tryz.prog 31 1 = some 1 := by kernel_rfl
theorem tyF35_0 : tyField Tryz.prog 35 0 = some 0 := by kernel_rfl
theorem tyF35_1 : tyField Tryz.prog 35 1 = some 1 := by kernel_rfl
theorem tyF35_2 : tyField Tryz.prog 35 2 = some 2 := by kernel_rfl
theorem tyF35_3 : tyField Tryz.prog 35 3 = some 3 := by kernel_rfl
theorem tyF35_4 : tyField Tryz.prog 35 4 = some 4 := by kernel_rfl
theorem tyF35_5 : tyField Tryz.prog 35 5 = some 5 := by kernel_rfl
theorem tyF39_0 : tyField Tryz.prog 39 0 = some 0 := by kernel_rfl
theorem tyF39_1 : tyField Tryz.prog 39 1 = some 1 := by kernel_rfl
theorem tyF39_2 : tyField Tryz.prog 39 2 = some 2 := by kernel_rfl
theorem tyF39_3 : tyField Tryz.prog 39 3 = some 6 := by kernel_rfl
theorem tyF39_4 : tyField Tryz.prog 39 4 = some 7 := by kernel_rfl
theorem tyF39_5 : tyField Tryz.prog 39 5 = some 8 := by kernel_rfl
theorem tyF42_0 : tyField Tryz.prog 42 0 = some 0 := by kernel_rfl
theorem tyF42_1 : tyField Tryz.prog 42 1 = some 1 := by kernel_rfl
theorem tyF42_2 : tyField Tryz.prog 42 2 = some 2 := by kernel_rfl
theorem tyF42_3 : tyField Tryz.prog 42 3 = some 3 := by kernel_rfl
theorem tyF45_0 : tyField Tryz.prog 45 0 = some 0 := by kernel_rfl
theorem tyF45_1 : tyField Tryz.prog 45 1 = some 1 := by kernel_rfl
theorem tyF45_2 : tyField Tryz.prog 45 2 = some 2 := by kernel_rfl
theorem tyF45_3 : tyField Tryz.prog 45 3 = some 3 := by kernel_rfl
theorem tyF45_4 : tyField Tryz.prog 45 4 = some 4 := by kernel_rfl
theorem tyF45_5 : tyField Tryz.prog 45 5 = some 8 := by kernel_rfl
theorem tyF45_6 : tyField Tryz.prog 45 6 = some 9 := by kernel_rfl
theorem tyF45_7 : tyField Tryz.prog 45 7 = some 10 := by kernel_rfl
theorem tyF45_8 : tyField Tryz.prog 45 8 = some 11 := by kernel_rfl
theorem tyF45_9 : tyField Tryz.prog 45 9 = some 12 := by kernel_rfl
theorem tyF45_10 : tyField Tryz.prog 45 10 = some 13 := by kernel_rfl
theorem tyF45_11 : tyField Tryz.prog 45 11 = some 14 := by kernel_rfl
theorem tyF45_12 : tyField Tryz.prog 45 12 = some 15 := by kernel_rfl
theorem tyF45_13 : tyField Tryz.prog 45 13 = some 16 := by kernel_rfl
theorem tyF45_14 : tyField Tryz.prog 45 14 = some 17 := by kernel_rfl
theorem tyF45_15 : tyField Tryz.prog 45 15 = some 18 := by kernel_rfl
theorem tyF45_16 : tyField Tryz.prog 45 16 = some 19 := by kernel_rfl
theorem tyF45_17 : tyField Tryz.prog 45 17 = some 20 := by kernel_rfl
theorem tyF45_18 : tyField Tryz.prog 45 18 = some 21 := by kernel_rfl
theorem tyF45_19 : tyField Tryz.prog 45 19 = some 22 := by kernel_rfl
theorem tyF45_20 : tyField Tryz.prog 45 20 = some 23 := by kernel_rfl
theorem tyF45_21 : tyField Tryz.prog 45 21 = some 24 := by kernel_rfl
theorem tyF45_22 : tyField Tryz.prog 45 22 = some 25 := by kernel_rfl
theorem tyF131_0 : tyField Tryz.prog 131 0 = some 0 := by kernel_rfl
theorem tyF131_1 : tyField Tryz.prog 131 1 = some 1 := by kernel_rfl
theorem tyF145_0 : tyField Tryz.prog 145 0 = some 0 := by kernel_rfl
theorem tyF145_1 : tyField Tryz.prog 145 1 = some 1 := by kernel_rfl
theorem tyF145_2 : tyField Tryz.prog 145 2 = some 4 := by kernel_rfl
theorem tyF145_3 : tyField Tryz.prog 145 3 = some 30 := by kernel_rfl
attribute [go_sem] tyA3 tyA4 tyA5 tyA22 tyA24 tyA28 tyA29 tyA31 tyA35 tyA36 tyA39 tyA42 tyA43 tyA45 tyZ24 tyZ31 tyZ35 tyZ39 tyZ42 tyZ45 tyZ131 tyZ145 tyP24 tyP31 tyP35 tyP39 tyP42 tyP45 tyP131 tyP145 tyS22 tyS28 tyS29 tyS36 tyS50 tyR37 tyF24_0 tyF24_1 tyF24_2 tyF31_0 tyF31_1 tyF35_0 tyF35_1 tyF35_2 tyF35_3 tyF35_4 tyF35_5 tyF39_0 tyF39_1 tyF39_2 tyF39_3 tyF39_4 tyF39_5 tyF42_0 tyF42_1 tyF42_2 tyF42_3 tyF45_0 tyF45_1 tyF45_2 tyF45_3 tyF45_4 tyF45_5 tyF45_6 tyF45_7 tyF45_8 tyF45_9 tyF45_10 tyF45_11 tyF45_12 tyF45_13 tyF45_14 tyF45_15 tyF45_16 tyF45_17 tyF45_18 tyF45_19 tyF45_20 tyF45_21 tyF45_22 tyF131_0 tyF131_1 tyF145_0 tyF145_1 tyF145_2 tyF145_3
def ord13 : Nat → DOrd
  | 5 => ⟨[0, 0, 0, 4, 12, 28, 62, 127, 255], [(0, 6)], []⟩
  | _ => ⟨[], [], []⟩
def ord22 : Nat → DOrd
  | 3 => ⟨[0, 1, 0, 7, 15, 15, 15, 127, 255, 511], [(2, 1)], []⟩
  | _ => ⟨[], [], []⟩
def ord37 : Nat → DOrd
  | 7 => ⟨[0, 0, 2, 0, 14, 30, 63, 127], [], []⟩
  | _ => ⟨[], [], []⟩
def ord38 : Nat → DOrd
  | 6 => ⟨[0, 1, 0, 7, 15, 0, 32, 0, 224, 480, 1023], [], []⟩
  | _ => ⟨[], [], []⟩
def ord58 : Nat → DOrd
  | 3 => ⟨[0, 1, 0, 7, 15], [(2, 1)], []⟩
  | _ => ⟨[], [], []⟩
def ord65 : Nat → DOrd
  | 1 => ⟨[0, 1, 0, 4, 12, 31, 63], [(3, 1)], []⟩
  | _ => ⟨[], [], []⟩
def ord66 : Nat → DOrd
  | 5 => ⟨[0, 1, 0, 4, 12, 31, 63, 127], [(1, 3), (1, 4)], []⟩
  | _ => ⟨[], [], []⟩
def ord67 : Nat → DOrd
  | 2 => ⟨[0, 1, 0, 4, 15, 31, 63, 127, 255, 511, 1023, 2047, 4095], [(3, 1)], []⟩
  | 3 => ⟨[0, 0, 2, 6, 14, 0, 32, 96, 224, 510, 1023, 2047, 4095], [(4, 7), (4, 8)], []⟩
  | 8 => ⟨[0, 1, 3, 7, 0, 16, 63, 127, 255], [], []⟩
  | 10 => ⟨[0, 1, 3, 7, 0, 16, 0, 64, 192, 448, 0, 1024, 4032, 8128, 0, 16384, 0, 65536, 0, 262144, 1032192, 2097088, 4194303, 8388607], [(3, 21), (5, 21)], []⟩
  | 14 => ⟨[0, 1, 3, 7, 0, 16, 63, 127, 0, 511], [(3, 8), (5, 8), (7, 8)], []⟩
  | 15 => ⟨[0, 0, 2, 0, 0, 0, 32, 112, 255], [(2, 7), (3, 7)], []⟩
  | _ => ⟨[], [], []⟩
def ord74 : Nat → DOrd
  | 9 => ⟨[0, 1, 0, 4, 0, 16, 0, 64, 240, 496, 1008, 2047, 4095], [], []⟩
  | 10 => ⟨[0, 0, 2, 0, 8, 30, 62, 1, 129, 511], [(2, 7), (4, 7), (6, 7)], []⟩
  | _ => ⟨[], [], []⟩
def ord75 : Nat → DOrd
  | 1 => ⟨[0, 1, 0, 0, 8, 28, 0, 0, 128, 508, 0, 0, 2048, 8188, 0, 0, 32768, 131068, 262143, 0, 1048575], [(1, 2), (1, 5), (1, 9), (1, 13), (1, 17), (4, 2), (6, 2), (6, 5), (8, 2), (8, 5), (10, 2), (10, 5), (10, 9), (12, 2), (12, 5), (12, 9), (14, 2), (14, 5), (14, 9), (14, 13), (16, 2), (16, 5), (16, 9), (16, 13), (19, 2), (19, 5), (19, 9), (19, 13), (19, 17)], [6, 10, 14, 19]⟩
  | _ => ⟨[], [], []⟩
def ord79 : Nat → DOrd
  | 5 => ⟨[0, 1, 3, 7, 15, 31, 63, 15, 143, 511, 1023, 2047, 4095, 8191, 4095, 20479, 65535, 131071], [(6, 8)], []⟩
  | _ => ⟨[], [], []⟩
def ord81 : Nat → DOrd
  | 7 => ⟨[0, 1, 3, 7, 0, 0, 32, 96, 224, 480, 1008, 2047, 4095, 8191, 16383, 0, 32768, 98304, 229376, 0, 524288, 1572864, 0, 4194304, 12582912, 29360128, 62914560, 133693440, 268402688, 536838144, 1073709056, 2147450880, 4294967295, 0, 8589934592, 34359738367, 0, 0, 137438953472, 412316860416, 962072674304, 2061584302080, 4329327034368, 8727373545472, 17592186044415, 35184372088831], [], []⟩
  | _ => ⟨[], [], []⟩
def ord82 : Nat → DOrd
  | 11 => ⟨[0, 1, 0, 4, 0, 16, 0, 64, 240, 496, 0, 1024, 0, 4096, 0, 16384, 64512, 131056, 262143, 524287], [(1, 17), (3, 17)], []⟩
  | _ => ⟨[], [], []⟩
def ord85 : Nat → DOrd
  | 4 => ⟨[0, 1, 0, 4, 0, 28, 60, 0, 252, 508, 1023, 2047], [(1, 3), (1, 6), (1, 8), (1, 9)], []⟩
  | _ => ⟨[], [], []⟩
def ord87 : Nat → DOrd
  | 1 => ⟨[0, 1, 3, 0, 8, 31, 31, 127, 255, 511], [(4, 2)], []⟩
  | _ => ⟨[], [], []⟩
def ord90 : Nat → DOrd
  | 15 => ⟨[0, 1, 3, 7, 0, 16, 48, 112, 0, 256, 768, 1792, 15, 4351, 16383], [(11, 13)], []⟩
  | _ => ⟨[], [], []⟩
def ord91 : Nat → DOrd
  | 5 => ⟨[0, 0, 2, 7, 15], [(0, 2)], []⟩
  | _ => ⟨[], [], []⟩
def ord92 : Nat → DOrd
  | 1 => ⟨[0, 1, 0, 4, 12, 31, 63], [(3, 1)], []⟩
  | _ => ⟨[], [], []⟩
def ord96 : Nat → DOrd
  | 1 => ⟨[0, 1, 0, 4, 15, 31], [(3, 1)], []⟩
  | _ => ⟨[], [], []⟩
def ord99 : Nat → DOrd
  | 6 => ⟨[0, 1, 0, 0, 8, 24, 60, 0, 252, 0, 1020, 2044, 4095, 8191], [(1, 6), (1, 8), (1, 10), (1, 11)], []⟩
  | 11 => ⟨[0, 1, 0, 4, 15, 31, 63], [(1, 3)], []⟩
  | 14 => ⟨[0, 1, 0, 4, 15, 31, 63], [(1, 3)], []⟩
  | _ => ⟨[], [], []⟩
def ord108 : Nat → DOrd
  | 8 => ⟨[0, 0, 0, 6, 14, 31, 63], [], []⟩
  | _ => ⟨[], [], []⟩
def ord118 : Nat → DOrd
  | 3 => ⟨[0, 1, 3, 7, 15, 31, 63, 127, 255, 511, 1023, 2047, 4095, 8191, 16383, 32767, 16383, 81919, 262143, 524287, 1048575, 2097151, 4194303, 8388607, 2097151, 18874367, 67108863, 134217727, 268435455, 536870911, 1073741823, 2147483647, 4294967295, 8589934591, 17179869183, 34359738367, 68719476735, 137438953471, 274877906943, 549755813887, 1099511627775, 2199023255551, 4398046511103, 8796093022207, 17592186044415], [(15, 17), (22, 25)], []⟩
  | _ => ⟨[], [], []⟩
def ord119 : Nat → DOrd
  | 4 => ⟨[0, 1, 3, 0, 8, 31, 63, 127, 255, 127, 639, 2047, 4095, 8191], [(8, 10)], []⟩
  | 6 => ⟨[0, 1, 3, 0, 8, 31, 63, 127, 255, 511, 1023, 2047, 4095, 8191, 16383, 32767, 8191, 73727, 262143, 524287, 1048575], [(1, 4)], []⟩
  | _ => ⟨[], [], []⟩
def ord122 : Nat → DOrd
  | 5 => ⟨[0, 1, 0, 4, 0, 28, 60, 124, 252, 511, 1023, 2047], [(1, 7), (1, 8)], []⟩
  | _ => ⟨[], [], []⟩
def ord126 : Nat → DOrd
  | 12 => ⟨[0, 0, 3, 7, 0, 0, 48, 112, 255], [], []⟩
  | _ => ⟨[], [], []⟩
def ord127 : Nat → DOrd
  | 1 => ⟨[0, 1, 0, 4, 12, 31, 63], [(3, 1)], []⟩
  | _ => ⟨[], [], []⟩
def ord136 : Nat → DOrd
  | 11 => ⟨[0, 1, 0, 7, 15, 31, 63, 127, 255, 127, 1023, 2047, 127, 4223, 16383, 32767, 65535, 131071, 262143, 131071, 1048575, 2097151, 4194303, 8388607, 16777215, 33554431, 16777215, 83886079, 16777215, 486539263, 1023410175, 2097151999, 4294967295, 8589934591, 17179869183, 34359738367, 68719476735], [], []⟩
  | _ => ⟨[], [], []⟩
def ord137 : Nat → DOrd
  | 4 => ⟨[0, 0, 3, 7, 15, 0, 32, 96, 255], [], []⟩
  | _ => ⟨[], [], []⟩
def ord138 : Nat → DOrd
  | 5 => ⟨[0, 0, 0, 4, 15, 31], [(0, 3)], []⟩
  | _ => ⟨[], [], []⟩
def ord144 : Nat → DOrd
  | 1 => ⟨[0, 1, 0, 4, 12, 31, 63], [(3, 1)], []⟩
  | _ => ⟨[], [], []⟩
def ord145 : Nat → DOrd
  | 3 => ⟨[0, 1, 0, 4, 12, 31, 63, 127], [(1, 3), (1, 4)], []⟩
  | _ => ⟨[], [], []⟩
def ord151 : Nat → DOrd
  | 4 => ⟨[0, 0, 0, 4, 12, 28, 0, 64, 252, 510, 1023, 2047, 4095, 8191], [], []⟩
  | 5 => ⟨[0, 1, 3, 7, 15, 31, 0, 64, 255], [(7, 5)], []⟩
  | 13 => ⟨[0, 1, 0, 7, 15, 31, 31, 95, 223, 479, 31, 1055, 4063, 31, 8223, 31, 65535, 131071], [(14, 12)], []⟩
  | _ => ⟨[], [], []⟩
def ord152 : Nat → DOrd
  | 1 => ⟨[0, 0, 2, 6, 14, 30, 0, 64, 255], [(5, 7)], []⟩
  | _ => ⟨[], [], []⟩
def ord153 : Nat → DOrd
  | 3 => ⟨[0, 0, 0, 4, 14, 0, 0, 64, 254, 510, 1022, 2047, 4095, 8191, 16383], [(3, 1), (7, 1), (7, 4)], []⟩
  | 5 => ⟨[0, 1, 3, 7, 15, 0, 32, 96, 224, 480, 1023], [(4, 9)], []⟩
  | 8 => ⟨[0, 1, 3, 7, 0, 16, 48, 127, 255], [], []⟩
  | _ => ⟨[], [], []⟩
def ord154 : Nat → DOrd
  | 0 => ⟨[0, 1, 3, 7, 0, 16, 48, 112, 240, 511, 0, 1024, 3072, 7168, 15360, 32767, 65535], [(14, 9)], []⟩
  | 4 => ⟨[0, 1, 3, 7, 15, 31, 0, 64, 192, 448, 960, 2047], [(10, 5)], []⟩
  | 8 => ⟨[0, 1, 3, 7, 15, 0, 32, 127, 255, 511, 511, 511, 2559, 6655, 14847, 31231, 511, 66047, 262143, 524287, 1048575], [(4, 6), (15, 17)], []⟩
  | 12 => ⟨[0, 1, 3, 7, 15, 0, 32, 96, 224, 480, 992, 2047], [], []⟩
  | _ => ⟨[], [], []⟩
def ord155 : Nat → DOrd
  | 3 => ⟨[0, 0, 0, 4, 12, 28, 0, 64, 252, 510, 1023, 2047, 4095, 8191], [], []⟩
  | 9 => ⟨[0, 0, 0, 4, 12, 28, 0, 64, 252, 510, 1023, 2047, 4095, 8191], [], []⟩
  | 15 => ⟨[0, 0, 2, 7, 15, 31, 31, 95, 255, 511, 1023, 1023, 3071, 7167, 16383, 1023, 33791, 99327, 230399, 492543, 1048575, 2097151, 4194303], [(19, 13)], []⟩
  | 18 => ⟨[0, 0, 2, 6, 14, 0, 32, 126, 0, 256, 0, 1024, 0, 4096, 12542, 31998, 65535], [(9, 7), (9, 14), (9, 15), (11, 7), (11, 14), (13, 7)], []⟩
  | _ => ⟨[], [], []⟩
def ord156 : Nat → DOrd
  | 4 => ⟨[0, 0, 2, 6, 14, 0, 32, 126, 255, 511], [], []⟩
  | 5 => ⟨[0, 1, 0, 4, 15, 31, 63, 127, 255, 511], [(3, 1)], []⟩
  | 11 => ⟨[0, 0, 0, 4, 12, 28, 0, 64, 252, 0, 512, 2044, 4094, 8191, 16383, 32767, 65535], [(10, 8)], []⟩
  | 13 => ⟨[0, 1, 3, 7, 15, 31, 0, 64, 255], [(7, 5)], []⟩
  | 18 => ⟨[0, 1, 3, 7, 15, 31, 0, 64, 255], [(7, 5)], []⟩
  | 23 => ⟨[0, 0, 0, 4, 0, 0, 32, 112, 255], [(3, 7)], []⟩
  | _ => ⟨[], [], []⟩
def ord157 : Nat → DOrd
  | 3 => ⟨[0, 0, 2, 6, 14, 30, 0, 64, 255], [(5, 7)], []⟩
  | 5 => ⟨[0, 0, 2, 6, 14, 30, 0, 64, 192, 448, 960, 2047], [], []⟩
  | _ => ⟨[], [], []⟩
def ord163 : Nat → DOrd
  | 13 => ⟨[0, 0, 2, 7, 0, 16, 63, 127], [(5, 3)], []⟩
  | 21 => ⟨[0, 0, 2, 7, 0, 16, 63, 127], [(5, 3)], []⟩
  | _ => ⟨[], [], []⟩
def ord174 : Nat → DOrd
  | 11 => ⟨[0, 0, 2, 7, 15, 31, 31, 95, 31, 287, 991, 2047, 4095, 8191], [(9, 7)], []⟩
  | 12 => ⟨[0, 1, 3, 7, 7, 31, 63, 7, 7, 391, 903, 1927, 4095, 8191], [(6, 11)], []⟩
  | _ => ⟨[], [], []⟩
def ord175 : Nat → DOrd
  | 5 => ⟨[0, 1, 3, 7, 15, 31, 63, 15, 143, 511, 1023, 2047, 4095, 8191, 4095, 20479, 65535, 131071, 262143, 524287, 262143, 1310719, 4194303, 8388607, 16777215], [(6, 8)], []⟩
  | _ => ⟨[], [], []⟩
def ord176 : Nat → DOrd
  | 5 => ⟨[0, 0, 0, 6, 0, 16, 0, 112, 240, 0, 512, 0, 3584, 7680, 15872, 32752, 65535, 131071], [(5, 3), (8, 3), (10, 3), (13, 3)], []⟩
  | 9 => ⟨[0, 0, 0, 6, 0, 16, 0, 112, 240, 511, 1023], [(5, 3), (8, 3)], []⟩
  | 13 => ⟨[0, 0, 0, 6, 0, 16, 0, 112, 240, 511, 1023], [(5, 3), (8, 3)], []⟩
  | 22 => ⟨[0, 0, 0, 6, 14, 0, 62, 126, 255, 511], [], []⟩
  | _ => ⟨[], [], []⟩
def ord178 : Nat → DOrd
  | 1 => ⟨[0, 1, 0, 4, 15, 31], [(3, 1)], []⟩
  | _ => ⟨[], [], []⟩
def ord206 : Nat → DOrd
  | 5 => ⟨[0, 0, 0, 4, 12, 28, 0, 64, 252, 510, 1023, 2047, 4095, 8191], [], []⟩
  | 12 => ⟨[0, 1, 3, 0, 8, 31, 63, 127, 127, 383, 895, 1919, 127, 4223, 16255, 127, 32895, 127, 262143, 524287], [(4, 2), (16, 14)], []⟩
  | 16 => ⟨[0, 0, 2, 6, 14, 0, 32, 126, 0, 256, 0, 1024, 0, 4096, 12542, 31998, 65535, 131071], [(9, 7), (9, 14), (9, 15), (11, 7), (11, 14), (13, 7)], []⟩
  | _ => ⟨[], [], []⟩
def ord207 : Nat → DOrd
  | 1 => ⟨[0, 0, 2, 6, 14, 30, 0, 64, 192, 448, 960, 0, 2048, 6144, 14336, 30720, 65535, 131071], [], []⟩
  | _ => ⟨[], [], []⟩
def ord208 : Nat → DOrd
  | 0 => ⟨[0, 1, 3, 7, 15, 0, 32, 96, 224, 0, 512, 1536, 3584, 7680, 16352, 32767, 65535, 131071, 262143, 524287, 524287, 1048575, 4194303], [(4, 14)], []⟩
  | _ => ⟨[], [], []⟩
def ord210 : Nat → DOrd
  | 0 => ⟨[0, 1, 3, 7, 15, 0, 32, 96, 224, 480, 0, 1024, 3072, 7168, 15360, 32767, 65535, 131071, 131071, 131071, 262143, 1572863, 4194303], [], []⟩
  | _ => ⟨[], [], []⟩
def ord211 : Nat → DOrd
  | 1 => ⟨[0, 0, 2, 0, 0, 16, 63, 127], [(0, 2), (5, 2)], []⟩
  | _ => ⟨[], [], []⟩
def ord212 : Nat → DOrd
  | 2 => ⟨[0, 1, 3, 7, 15, 31, 0, 64, 192, 448, 960, 2047, 4095], [], []⟩
  | 3 => ⟨[0, 1, 3, 7, 15, 0, 32, 96, 224, 480, 992, 2047, 4095, 8191], [], []⟩
  | _ => ⟨[], [], []⟩
def ord217 : Nat → DOrd
  | 1 => ⟨[0, 1, 3, 7, 15, 0, 32, 96, 224, 480, 1023, 2047], [], []⟩
  | 5 => ⟨[0, 0, 2, 6, 14, 30, 0, 64, 192, 448, 960, 1984, 4094, 8190, 16383, 32767, 65535, 131071], [], []⟩
  | _ => ⟨[], [], []⟩
def ord224 : Nat → DOrd
  | 5 => ⟨[0, 1, 0, 0, 8, 0, 0, 0, 0, 384, 960, 1984, 4032, 8128, 8128, 16327, 49095, 131071, 262143], [(1, 9), (1, 10), (1, 11), (4, 9), (4, 10), (4, 11), (4, 16)], []⟩
  | 9 => ⟨[0, 1, 0, 0, 0, 0, 48, 120, 255, 511], [(1, 6), (1, 7)], []⟩
  | 13 => ⟨[0, 1, 0, 0, 0, 0, 48, 120, 255, 511], [(1, 6), (1, 7)], []⟩
  | _ => ⟨[], [], []⟩
def ord237 : Nat → DOrd
  | 1 => ⟨[0, 1, 0, 4, 15, 31], [(3, 1)], []⟩
  | _ => ⟨[], [], []⟩
def ord257 : Nat → DOrd
  | 0 => ⟨[0, 0, 0, 4, 12, 28, 0, 64, 192, 448, 960, 2044, 4094, 8191, 16383, 32767, 65535], [], []⟩
  | _ => ⟨[], [], []⟩
def ord259 : Nat → DOrd
  | 3 => ⟨[0, 1, 3, 7, 15, 0, 32, 96, 224, 0, 992, 2047, 4095, 8191, 16383, 32767, 32767, 65535, 262143], [(4, 10)], []⟩
  | _ => ⟨[], [], []⟩
def ord263 : Nat → DOrd
  | 3 => ⟨[0, 1, 0, 4, 12, 0, 32, 96, 224, 0, 512, 1536, 0, 4096, 12288, 32767, 65535], [(1, 4), (6, 4), (8, 4), (10, 4), (11, 4), (13, 4), (14, 4)], [8, 11, 14]⟩
  | _ => ⟨[], [], []⟩
def ord267 : Nat → DOrd
  | 1 => ⟨[0, 1, 3, 7, 15, 0, 32, 96, 224, 0, 992, 2047, 4095, 8191], [(4, 10)], []⟩
  | 2 => ⟨[0, 1, 0, 7, 15, 31, 63, 31, 255, 511, 1023, 2047, 4095, 8191, 16383, 32767, 65535, 131071, 1023, 524287, 1048575, 1023, 2098175, 6292479, 14681087, 31458303, 67108863, 134217727, 268435455, 536870911], [(25, 17), (25, 19)], []⟩
  | _ => ⟨[], [], []⟩
end AH
