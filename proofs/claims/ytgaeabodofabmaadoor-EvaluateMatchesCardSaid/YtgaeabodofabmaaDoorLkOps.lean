/- The operations of the region of the reference's Like that draws its order, by name. (Printed by opsfile.py.) -/
import Derived.Test.YtgaeabodofabmaaDoorProg
import Derived.Test.YtgaeabodofabmaaDoorOrd
import Derived.KernelRfl
namespace Go.Proofs.YtgaeabodofabmaaDoor
open Go
noncomputable def lkRaw : Array Oper := match Tryd.f43.body with | some c => regionOf 13 c | none => #[]
noncomputable def lkPos0 : String := posOf lkRaw 0
noncomputable def lkOps : Array Oper := (List.toArray [
  ⟨some 55, Op.move (Operand.tmp 7), 70, lkPos0, #[], none⟩,
  ⟨some 56, Op.move (Operand.tmp 8), 3, lkPos0, #[], none⟩,
  ⟨some 57, Op.move (Operand.tmp 5), 70, lkPos0, #[], none⟩,
  ⟨some 58, Op.move (Operand.tmp 8), 3, lkPos0, #[], none⟩,
  ⟨some 59, Op.binOp BinOp.sub 3 (Operand.tmp 58) (Operand.const (Value.int IntKind.i64 1)) 3, 3, lkPos0, #[⟨3, .data⟩], none⟩,
  ⟨some 60, Op.indexAddr 70 (Operand.tmp 57) (Operand.tmp 59), 0, lkPos0, #[⟨2, .data⟩, ⟨4, .data⟩], none⟩,
  ⟨some 61, Op.load 4 (Operand.tmp 60), 4, lkPos0, #[⟨5, .data⟩], none⟩,
  ⟨some 62, Op.move (Operand.tmp 61), 4, lkPos0, #[⟨6, .data⟩], none⟩,
  ⟨some 63, Op.move (Operand.tmp 1), 9, lkPos0, #[⟨7, .guard⟩], some (7, true)⟩,
  ⟨some 64, Op.move (Operand.tmp 6), 3, lkPos0, #[⟨7, .guard⟩], some (7, true)⟩,
  ⟨some 65, Op.index 9 (Operand.tmp 63) (Operand.tmp 64), 5, lkPos0, #[⟨8, .data⟩, ⟨9, .data⟩, ⟨7, .guard⟩], some (7, true)⟩,
  ⟨some 66, Op.binOp BinOp.eql 5 (Operand.tmp 65) (Operand.const (Value.int IntKind.u8 95)) 5, 4, lkPos0, #[⟨10, .data⟩, ⟨7, .guard⟩], some (7, true)⟩,
  ⟨some 67, Op.move (Operand.tmp 66), 4, lkPos0, #[⟨11, .data⟩, ⟨7, .chain⟩, ⟨7, .guard⟩], some (7, true)⟩,
  ⟨some 68, Op.move (Operand.tmp 1), 9, lkPos0, #[⟨12, .guard⟩], some (12, false)⟩,
  ⟨some 69, Op.move (Operand.tmp 6), 3, lkPos0, #[⟨12, .guard⟩], some (12, false)⟩,
  ⟨some 70, Op.index 9 (Operand.tmp 68) (Operand.tmp 69), 5, lkPos0, #[⟨13, .data⟩, ⟨14, .data⟩, ⟨12, .guard⟩], some (12, false)⟩,
  ⟨some 71, Op.move (Operand.tmp 0), 9, lkPos0, #[⟨12, .guard⟩], some (12, false)⟩,
  ⟨some 72, Op.move (Operand.tmp 8), 3, lkPos0, #[⟨12, .guard⟩], some (12, false)⟩,
  ⟨some 73, Op.binOp BinOp.sub 3 (Operand.tmp 72) (Operand.const (Value.int IntKind.i64 1)) 3, 3, lkPos0, #[⟨17, .data⟩, ⟨12, .guard⟩], some (12, false)⟩,
  ⟨some 74, Op.index 9 (Operand.tmp 71) (Operand.tmp 73), 5, lkPos0, #[⟨16, .data⟩, ⟨18, .data⟩, ⟨12, .guard⟩], some (12, false)⟩,
  ⟨some 75, Op.binOp BinOp.eql 5 (Operand.tmp 70) (Operand.tmp 74) 5, 4, lkPos0, #[⟨15, .data⟩, ⟨19, .data⟩, ⟨12, .guard⟩], some (12, false)⟩,
  ⟨some 76, Op.pick (Operand.tmp 67) (Operand.const (Value.bool true)) (Operand.tmp 75), 4, lkPos0, #[⟨12, .data⟩, ⟨20, .data⟩, ⟨7, .guard⟩], some (7, true)⟩,
  ⟨some 77, Op.pick (Operand.tmp 62) (Operand.tmp 76) (Operand.const (Value.bool false)), 4, lkPos0, #[⟨7, .data⟩, ⟨21, .data⟩], none⟩,
  ⟨some 78, Op.indexAddr 70 (Operand.tmp 55) (Operand.tmp 56), 0, lkPos0, #[⟨0, .data⟩, ⟨1, .data⟩, ⟨0, .phase⟩, ⟨1, .phase⟩, ⟨2, .phase⟩, ⟨3, .phase⟩, ⟨4, .phase⟩, ⟨5, .phase⟩, ⟨6, .phase⟩, ⟨7, .phase⟩, ⟨8, .phase⟩, ⟨9, .phase⟩, ⟨10, .phase⟩, ⟨11, .phase⟩, ⟨12, .phase⟩, ⟨13, .phase⟩, ⟨14, .phase⟩, ⟨15, .phase⟩, ⟨16, .phase⟩, ⟨17, .phase⟩, ⟨18, .phase⟩, ⟨19, .phase⟩, ⟨20, .phase⟩, ⟨21, .phase⟩, ⟨22, .phase⟩], none⟩,
  ⟨none, Op.store 4 (Operand.tmp 78) (Operand.tmp 77), 0, lkPos0, #[⟨23, .data⟩, ⟨22, .data⟩, ⟨12, .chain⟩, ⟨0, .phase⟩, ⟨1, .phase⟩, ⟨2, .phase⟩, ⟨3, .phase⟩, ⟨4, .phase⟩, ⟨5, .phase⟩, ⟨6, .phase⟩, ⟨7, .phase⟩, ⟨8, .phase⟩, ⟨9, .phase⟩, ⟨10, .phase⟩, ⟨11, .phase⟩, ⟨12, .phase⟩, ⟨13, .phase⟩, ⟨14, .phase⟩, ⟨15, .phase⟩, ⟨16, .phase⟩, ⟨17, .phase⟩, ⟨18, .phase⟩, ⟨19, .phase⟩, ⟨20, .phase⟩, ⟨21, .phase⟩, ⟨22, .phase⟩], none⟩])
def lkOrd : List (Nat × Bool) := [(0, true), (1, true), (2, true), (3, true), (4, true), (5, true), (6, true), (7, true), (8, true), (9, true), (10, true), (11, true), (12, true), (13, true), (14, true), (15, true), (16, true), (17, true), (18, true), (19, true), (20, true), (21, true), (22, true), (23, true), (24, false)]
def lkInf : List (Nat × Nat × Nat) := [(0, 128, 36028797018963968), (0, 256, 72057594037927936), (0, 32, 144115188075855872), (0, 256, 288230376151711744), (8, 288230376151711744, 576460752303423488), (20, 720575940379279360, 1152921504606846976), (32, 1152921504606846976, 2305843009213693952), (64, 2305843009213693952, 4611686018427387904), (128, 4611686018427387906, 9223372036854775808), (128, 4611686018427387968, 18446744073709551616), (896, 32281802128991715328, 36893488147419103232), (1152, 41505174165846491136, 73786976294838206464), (2176, 78398662313265594368, 147573952589676412928), (4096, 147573952589676412930, 295147905179352825856), (4096, 147573952589676412992, 590295810358705651712), (28672, 1033017668127734890496, 1180591620717411303424), (4096, 147573952589676412929, 2361183241434822606848), (4096, 147573952589676413184, 4722366482869645213696), (135168, 4869940435459321626624, 9444732965739290427392), (331776, 11953490159763789447168, 18889465931478580854784), (561152, 20217631504785668571136, 37778931862957161709568), (1052800, 37931117501565265510400, 75557863725914323419136), (2097280, 75562475411932750807040, 151115727451828646838272), (8388607, 108086391056891904, 302231454903657293676544), (16777215, 453347182355485940514816, 0)]
theorem lk_inf : lkInf = sums lkOps := by kernel_rfl
theorem lk_ok : okL lkInf lkOrd 0 = true := by kernel_rfl
theorem lk_len : lkOrd.length = lkOps.size := by kernel_rfl
theorem lk_noSelect : Region.noSelect lkOps = true := by kernel_rfl
theorem lk_0 : lkOps[0]? = some ⟨some 55, Op.move (Operand.tmp 7), 70, lkPos0, #[], none⟩ := by kernel_rfl
theorem lk_1 : lkOps[1]? = some ⟨some 56, Op.move (Operand.tmp 8), 3, lkPos0, #[], none⟩ := by kernel_rfl
theorem lk_2 : lkOps[2]? = some ⟨some 57, Op.move (Operand.tmp 5), 70, lkPos0, #[], none⟩ := by kernel_rfl
theorem lk_3 : lkOps[3]? = some ⟨some 58, Op.move (Operand.tmp 8), 3, lkPos0, #[], none⟩ := by kernel_rfl
theorem lk_4 : lkOps[4]? = some ⟨some 59, Op.binOp BinOp.sub 3 (Operand.tmp 58) (Operand.const (Value.int IntKind.i64 1)) 3, 3, lkPos0, #[⟨3, .data⟩], none⟩ := by kernel_rfl
theorem lk_5 : lkOps[5]? = some ⟨some 60, Op.indexAddr 70 (Operand.tmp 57) (Operand.tmp 59), 0, lkPos0, #[⟨2, .data⟩, ⟨4, .data⟩], none⟩ := by kernel_rfl
theorem lk_6 : lkOps[6]? = some ⟨some 61, Op.load 4 (Operand.tmp 60), 4, lkPos0, #[⟨5, .data⟩], none⟩ := by kernel_rfl
theorem lk_7 : lkOps[7]? = some ⟨some 62, Op.move (Operand.tmp 61), 4, lkPos0, #[⟨6, .data⟩], none⟩ := by kernel_rfl
theorem lk_8 : lkOps[8]? = some ⟨some 63, Op.move (Operand.tmp 1), 9, lkPos0, #[⟨7, .guard⟩], some (7, true)⟩ := by kernel_rfl
theorem lk_9 : lkOps[9]? = some ⟨some 64, Op.move (Operand.tmp 6), 3, lkPos0, #[⟨7, .guard⟩], some (7, true)⟩ := by kernel_rfl
theorem lk_10 : lkOps[10]? = some ⟨some 65, Op.index 9 (Operand.tmp 63) (Operand.tmp 64), 5, lkPos0, #[⟨8, .data⟩, ⟨9, .data⟩, ⟨7, .guard⟩], some (7, true)⟩ := by kernel_rfl
theorem lk_11 : lkOps[11]? = some ⟨some 66, Op.binOp BinOp.eql 5 (Operand.tmp 65) (Operand.const (Value.int IntKind.u8 95)) 5, 4, lkPos0, #[⟨10, .data⟩, ⟨7, .guard⟩], some (7, true)⟩ := by kernel_rfl
theorem lk_12 : lkOps[12]? = some ⟨some 67, Op.move (Operand.tmp 66), 4, lkPos0, #[⟨11, .data⟩, ⟨7, .chain⟩, ⟨7, .guard⟩], some (7, true)⟩ := by kernel_rfl
theorem lk_13 : lkOps[13]? = some ⟨some 68, Op.move (Operand.tmp 1), 9, lkPos0, #[⟨12, .guard⟩], some (12, false)⟩ := by kernel_rfl
theorem lk_14 : lkOps[14]? = some ⟨some 69, Op.move (Operand.tmp 6), 3, lkPos0, #[⟨12, .guard⟩], some (12, false)⟩ := by kernel_rfl
theorem lk_15 : lkOps[15]? = some ⟨some 70, Op.index 9 (Operand.tmp 68) (Operand.tmp 69), 5, lkPos0, #[⟨13, .data⟩, ⟨14, .data⟩, ⟨12, .guard⟩], some (12, false)⟩ := by kernel_rfl
theorem lk_16 : lkOps[16]? = some ⟨some 71, Op.move (Operand.tmp 0), 9, lkPos0, #[⟨12, .guard⟩], some (12, false)⟩ := by kernel_rfl
theorem lk_17 : lkOps[17]? = some ⟨some 72, Op.move (Operand.tmp 8), 3, lkPos0, #[⟨12, .guard⟩], some (12, false)⟩ := by kernel_rfl
theorem lk_18 : lkOps[18]? = some ⟨some 73, Op.binOp BinOp.sub 3 (Operand.tmp 72) (Operand.const (Value.int IntKind.i64 1)) 3, 3, lkPos0, #[⟨17, .data⟩, ⟨12, .guard⟩], some (12, false)⟩ := by kernel_rfl
theorem lk_19 : lkOps[19]? = some ⟨some 74, Op.index 9 (Operand.tmp 71) (Operand.tmp 73), 5, lkPos0, #[⟨16, .data⟩, ⟨18, .data⟩, ⟨12, .guard⟩], some (12, false)⟩ := by kernel_rfl
theorem lk_20 : lkOps[20]? = some ⟨some 75, Op.binOp BinOp.eql 5 (Operand.tmp 70) (Operand.tmp 74) 5, 4, lkPos0, #[⟨15, .data⟩, ⟨19, .data⟩, ⟨12, .guard⟩], some (12, false)⟩ := by kernel_rfl
theorem lk_21 : lkOps[21]? = some ⟨some 76, Op.pick (Operand.tmp 67) (Operand.const (Value.bool true)) (Operand.tmp 75), 4, lkPos0, #[⟨12, .data⟩, ⟨20, .data⟩, ⟨7, .guard⟩], some (7, true)⟩ := by kernel_rfl
theorem lk_22 : lkOps[22]? = some ⟨some 77, Op.pick (Operand.tmp 62) (Operand.tmp 76) (Operand.const (Value.bool false)), 4, lkPos0, #[⟨7, .data⟩, ⟨21, .data⟩], none⟩ := by kernel_rfl
theorem lk_23 : lkOps[23]? = some ⟨some 78, Op.indexAddr 70 (Operand.tmp 55) (Operand.tmp 56), 0, lkPos0, #[⟨0, .data⟩, ⟨1, .data⟩, ⟨0, .phase⟩, ⟨1, .phase⟩, ⟨2, .phase⟩, ⟨3, .phase⟩, ⟨4, .phase⟩, ⟨5, .phase⟩, ⟨6, .phase⟩, ⟨7, .phase⟩, ⟨8, .phase⟩, ⟨9, .phase⟩, ⟨10, .phase⟩, ⟨11, .phase⟩, ⟨12, .phase⟩, ⟨13, .phase⟩, ⟨14, .phase⟩, ⟨15, .phase⟩, ⟨16, .phase⟩, ⟨17, .phase⟩, ⟨18, .phase⟩, ⟨19, .phase⟩, ⟨20, .phase⟩, ⟨21, .phase⟩, ⟨22, .phase⟩], none⟩ := by kernel_rfl
theorem lk_24 : lkOps[24]? = some ⟨none, Op.store 4 (Operand.tmp 78) (Operand.tmp 77), 0, lkPos0, #[⟨23, .data⟩, ⟨22, .data⟩, ⟨12, .chain⟩, ⟨0, .phase⟩, ⟨1, .phase⟩, ⟨2, .phase⟩, ⟨3, .phase⟩, ⟨4, .phase⟩, ⟨5, .phase⟩, ⟨6, .phase⟩, ⟨7, .phase⟩, ⟨8, .phase⟩, ⟨9, .phase⟩, ⟨10, .phase⟩, ⟨11, .phase⟩, ⟨12, .phase⟩, ⟨13, .phase⟩, ⟨14, .phase⟩, ⟨15, .phase⟩, ⟨16, .phase⟩, ⟨17, .phase⟩, ⟨18, .phase⟩, ⟨19, .phase⟩, ⟨20, .phase⟩, ⟨21, .phase⟩, ⟨22, .phase⟩], none⟩ := by kernel_rfl
end Go.Proofs.YtgaeabodofabmaaDoor
