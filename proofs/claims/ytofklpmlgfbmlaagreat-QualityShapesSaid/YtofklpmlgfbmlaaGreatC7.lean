/- Walks by the abstract run: natural numbers. -/
import Derived.Test.YtofklpmlgfbmlaaGreatC1
import Derived.Test.YtofklpmlgfbmlaaGreatC6
import Derived.Test.YtofklpmlgfbmlaaGreatProg
set_option linter.unusedVariables false
set_option linter.unusedSimpArgs false
/- What the walks of numbers lean on. -/
namespace Go.Proofs.YtofklpmlgfbmlaaGreat.ZRat
open Go.RowKit Go.Proofs.YtofklpmlgfbmlaaGreat.Wd
open Go Go.Proofs.YtofklpmlgfbmlaaGreat.Ab Go.Proofs
set_option linter.unusedSimpArgs false
set_option linter.unusedVariables false
def unN (k : IntKind) : AV → Option Int
  | .int k' n => if k' = k then some n else none
  | _ => none
def unB : AV → Option Bool
  | .bool b => some b
  | _ => none
theorem td2 : tdesc Tryz.prog 2 = .int .i64 := by kernel_rfl
theorem kd2 : kindT Tryz.prog 2 = some (1, false) := by kernel_rfl
theorem td3 : tdesc Tryz.prog 3 = .int .i64 := by kernel_rfl
theorem kd3 : kindT Tryz.prog 3 = some (1, false) := by kernel_rfl
theorem td4 : tdesc Tryz.prog 4 = .bool := by kernel_rfl
theorem kd4 : kindT Tryz.prog 4 = some (1, false) := by kernel_rfl
theorem td5 : tdesc Tryz.prog 5 = .int .u8 := by kernel_rfl
theorem td9 : tdesc Tryz.prog 9 = .str := by kernel_rfl
theorem td23 : tdesc Tryz.prog 23 = .struct 2 [.int .i64 0, .int .i64 0] [(0, 1, false), (1, 1, false)] := by kernel_rfl
theorem kd23 : kindT Tryz.prog 23 = some (2, true) := by kernel_rfl
theorem td30 : tdesc Tryz.prog 30 = .slice 121 1 4 [.int .u32 0] := by kernel_rfl
theorem kd30 : kindT Tryz.prog 30 = some (1, false) := by kernel_rfl
theorem td32 : tdesc Tryz.prog 32 = .struct 2 [.bool false, .nil] [(0, 1, false), (1, 1, false)] := by kernel_rfl
theorem kd32 : kindT Tryz.prog 32 = some (2, true) := by kernel_rfl
theorem td34 : tdesc Tryz.prog 34 = .struct 3 [.bool false, .nil, .nil] [(0, 2, true), (2, 1, false)] := by kernel_rfl
theorem kd34 : kindT Tryz.prog 34 = some (3, true) := by kernel_rfl
theorem td40 : tdesc Tryz.prog 40 = .slice 3 1 8 [.int .i64 0] := by kernel_rfl
theorem td41 : tdesc Tryz.prog 41 = .slice 3 1 8 [.int .i64 0] := by kernel_rfl
theorem kd41 : kindT Tryz.prog 41 = some (1, false) := by kernel_rfl
theorem td43 : tdesc Tryz.prog 43 = .struct 2 [.int .i64 0, .nil] [(0, 1, false), (1, 1, false)] := by kernel_rfl
theorem kd43 : kindT Tryz.prog 43 = some (2, true) := by kernel_rfl
theorem td45 : tdesc Tryz.prog 45 = .struct 4 [.int .i64 0, .nil, .int .i64 0, .nil] [(0, 2, true), (2, 2, true)] := by kernel_rfl
theorem kd45 : kindT Tryz.prog 45 = some (4, true) := by kernel_rfl
theorem td59 : tdesc Tryz.prog 59 = .int .u64 := by kernel_rfl
theorem kd59 : kindT Tryz.prog 59 = some (1, false) := by kernel_rfl
theorem td61 : tdesc Tryz.prog 61 = .struct 2 [.int .i64 0, .int .u64 0] [(0, 1, false), (1, 1, false)] := by kernel_rfl
theorem kd61 : kindT Tryz.prog 61 = some (2, true) := by kernel_rfl
theorem td62 : tdesc Tryz.prog 62 = .array 3 2 6 [.int .i64 0, .int .u64 0, .int .i64 0, .int .u64 0, .int .i64 0, .int .u64 0] true := by kernel_rfl
theorem td64 : tdesc Tryz.prog 64 = .struct 9 [.int .i64 0, .int .u64 0, .int .i64 0, .int .u64 0, .int .i64 0, .int .u64 0, .int .i64 0, .int .u64 0, .int .i64 0] [(0, 6, true), (6, 2, true), (8, 1, false)] := by kernel_rfl
theorem kd64 : kindT Tryz.prog 64 = some (9, true) := by kernel_rfl
theorem td67 : tdesc Tryz.prog 67 = .array 3 2 6 [.int .i64 0, .nil, .int .i64 0, .nil, .int .i64 0, .nil] true := by kernel_rfl
theorem kd67 : kindT Tryz.prog 67 = some (6, true) := by kernel_rfl
theorem td111 : tdesc Tryz.prog 111 = .array 4 1 4 [.int .u64 0, .int .u64 0, .int .u64 0, .int .u64 0] false := by kernel_rfl
theorem kd111 : kindT Tryz.prog 111 = some (4, true) := by kernel_rfl
theorem td113 : tdesc Tryz.prog 113 = .slice 3 1 8 [.int .i64 0] := by kernel_rfl
theorem td121 : tdesc Tryz.prog 121 = .int .u32 := by kernel_rfl
theorem kd121 : kindT Tryz.prog 121 = some (1, false) := by kernel_rfl
theorem td122 : tdesc Tryz.prog 122 = .int .u64 := by kernel_rfl
theorem td162 : tdesc Tryz.prog 162 = .slice 61 2 16 [.int .i64 0, .int .u64 0] := by kernel_rfl
theorem td174 : tdesc Tryz.prog 174 = .array 2 1 2 [.int .u64 0, .int .u64 0] false := by kernel_rfl
theorem kd174 : kindT Tryz.prog 174 = some (2, true) := by kernel_rfl
theorem td186 : tdesc Tryz.prog 186 = .slice 23 2 16 [.int .i64 0, .int .i64 0] := by kernel_rfl
theorem eq61 (a0 : Int) (a1 : Int) (b0 : Int) (b1 : Int) : eqA Tryz.prog 8 61 (.agg [.int .i64 a0, .int .u64 a1]) (.agg [.int .i64 b0, .int .u64 b1]) = some ((a0 == b0) && (a1 == b1)) := by
  have h : eqA Tryz.prog 8 61 (.agg [.int .i64 a0, .int .u64 a1]) (.agg [.int .i64 b0, .int .u64 b1]) = some (((a0 == b0) && ((a1 == b1) && true))) := by kernel_rfl
  rw [h]; simp [Bool.and_assoc]
theorem eq64 (a0 : Int) (a1 : Int) (a2 : Int) (a3 : Int) (a4 : Int) (a5 : Int) (a6 : Int) (a7 : Int) (a8 : Int) (b0 : Int) (b1 : Int) (b2 : Int) (b3 : Int) (b4 : Int) (b5 : Int) (b6 : Int) (b7 : Int) (b8 : Int) : eqA Tryz.prog 8 64 (.agg [.int .i64 a0, .int .u64 a1, .int .i64 a2, .int .u64 a3, .int .i64 a4, .int .u64 a5, .int .i64 a6, .int .u64 a7, .int .i64 a8]) (.agg [.int .i64 b0, .int .u64 b1, .int .i64 b2, .int .u64 b3, .int .i64 b4, .int .u64 b5, .int .i64 b6, .int .u64 b7, .int .i64 b8]) = some ((a0 == b0) && (a1 == b1) && (a2 == b2) && (a3 == b3) && (a4 == b4) && (a5 == b5) && (a6 == b6) && (a7 == b7) && (a8 == b8)) := by
  have h : eqA Tryz.prog 8 64 (.agg [.int .i64 a0, .int .u64 a1, .int .i64 a2, .int .u64 a3, .int .i64 a4, .int .u64 a5, .int .i64 a6, .int .u64 a7, .int .i64 a8]) (.agg [.int .i64 b0, .int .u64 b1, .int .i64 b2, .int .u64 b3, .int .i64 b4, .int .u64 b5, .int .i64 b6, .int .u64 b7, .int .i64 b8]) = some (((((a0 == b0) && ((a1 == b1) && true)) && (((a2 == b2) && ((a3 == b3) && true)) && (((a4 == b4) && ((a5 == b5) && true)) && true))) && (((a6 == b6) && ((a7 == b7) && true)) && ((a8 == b8) && true)))) := by kernel_rfl
  rw [h]; simp [Bool.and_assoc]
theorem eq111 (a0 : Int) (a1 : Int) (a2 : Int) (a3 : Int) (b0 : Int) (b1 : Int) (b2 : Int) (b3 : Int) : eqA Tryz.prog 8 111 (.agg [.int .u64 a0, .int .u64 a1, .int .u64 a2, .int .u64 a3]) (.agg [.int .u64 b0, .int .u64 b1, .int .u64 b2, .int .u64 b3]) = some ((a0 == b0) && (a1 == b1) && (a2 == b2) && (a3 == b3)) := by
  have h : eqA Tryz.prog 8 111 (.agg [.int .u64 a0, .int .u64 a1, .int .u64 a2, .int .u64 a3]) (.agg [.int .u64 b0, .int .u64 b1, .int .u64 b2, .int .u64 b3]) = some (((a0 == b0) && ((a1 == b1) && ((a2 == b2) && ((a3 == b3) && true))))) := by kernel_rfl
  rw [h]; simp [Bool.and_assoc]
attribute [simp] td2 kd2 td3 kd3 td4 kd4 td5 td9 td23 kd23 td30 kd30 td32 kd32 td34 kd34 td40 td41 kd41 td43 kd43 td45 kd45 td59 kd59 td61 kd61 td62 td64 kd64 td67 kd67 td111 kd111 td113 td121 kd121 td122 td162 td174 kd174 td186 eq61 eq64 eq111
theorem w64_eq (n : Int) : IntKind.i64.wrap n = wrap64 n := by
  unfold wrap64; simp [IntKind.wrap, IntKind.signed, IntKind.bits]; omega
theorem w32_eq (n : Int) : IntKind.u32.wrap n = n % 4294967296 := by
  simp [IntKind.wrap, IntKind.signed, IntKind.bits]
theorem w64u (n : Int) : IntKind.u64.wrap (n % 4294967296) = n % 4294967296 := by
  simp [IntKind.wrap, IntKind.signed, IntKind.bits]; omega
theorem w64m (n : Int) : wrap64 (n % 4294967296) = n % 4294967296 := by unfold wrap64; omega
attribute [simp] w64u w64m
theorem get_rd (l : List Int) (f : Int → AV) (i : Int) (h0 : 0 ≤ i) (h1 : i < l.length) : (l.map f)[i.toNat]? = some (f (rd l i)) := by
  obtain ⟨n, rfl⟩ := Int.eq_ofNat_of_zero_le h0
  have : n < l.length := by omega
  simp [rd, this]
noncomputable def SV145 : List AV → Option AV
  | [x0] => (unI .u32 x0).bind fun a0 => (pick fun k => nat_trim.f k a0).map fun r => (rowI .u32 r)
  | _ => none
noncomputable def SV148 : List AV → Option AV
  | [x0, x1] => (unI .u32 x0).bind fun a0 => (unI .u32 x1).bind fun a1 => (pick fun k => nat_cmp.f k a0 a1).map fun r => (.int .i64 r)
  | _ => none
noncomputable def SV194 : List AV → Option AV
  | [x0, x1, x2] => (unI .u32 x0).bind fun a0 => (unN .u64 x1).bind fun a1 => (unN .u64 x2).bind fun a2 => (pick fun k => nat_guess.f k a0 a1 a2).map fun r => (.int .u64 r)
  | _ => none
noncomputable def SV181 : List AV → Option AV
  | [x0] => (unN .u32 x0).bind fun a0 => (bits_Len32.f a0).map fun r => (.int .i64 r)
  | _ => none
noncomputable def SV192 : List AV → Option AV
  | [x0] => (unN .u32 x0).bind fun a0 => (bits_LeadingZeros32.f a0).map fun r => (.int .i64 r)
  | _ => none
noncomputable def SV146 : List AV → Option AV
  | [x0] => (unI .u32 x0).bind fun a0 => (api_Nat_uint32.f a0).map fun r => (rowI .u32 r)
  | _ => none
noncomputable def SV151 : List AV → Option AV
  | [x0, x1] => (unI .u32 x0).bind fun a0 => (unI .u32 x1).bind fun a1 => (pick fun k => nat_Add.f k a0 a1).map fun r => (rowI .u32 r)
  | _ => none
noncomputable def SV171 : List AV → Option AV
  | [x0, x1] => (unI .u32 x0).bind fun a0 => (unI .u32 x1).bind fun a1 => (pick fun k => nat_sub.f k a0 a1).map fun r => (rowI .u32 r)
  | _ => none
noncomputable def SV152 : List AV → Option AV
  | [x0, x1] => (unI .u32 x0).bind fun a0 => (unI .u32 x1).bind fun a1 => (pick fun k => nat_Sub.f k a0 a1).map fun r => (.tup [(rowI .u32 r.1), (.bool r.2)])
  | _ => none
noncomputable def SV92 : List AV → Option AV
  | [x0, x1] => (unI .u32 x0).bind fun a0 => (unI .u32 x1).bind fun a1 => (pick fun k => nat_Mul.f k a0 a1).map fun r => (rowI .u32 r)
  | _ => none
noncomputable def SV93 : List AV → Option AV
  | [x0] => (unN .u64 x0).bind fun a0 => (pick fun k => nat_Of.f k a0).map fun r => (rowI .u32 r)
  | _ => none
noncomputable def SV144 : List AV → Option AV
  | [x0] => (unI .u32 x0).bind fun a0 => (pick fun k => nat_Trim.f k a0).map fun r => (rowI .u32 r)
  | _ => none
noncomputable def SV186 : List AV → Option AV
  | [x0, x1] => (unI .u32 x0).bind fun a0 => (unI .u32 x1).bind fun a1 => (pick fun k => nat_long.f k a0 a1).map fun r => (.tup [(rowI .u32 r.1), (rowI .u32 r.2)])
  | _ => none
noncomputable def SV172 : List AV → Option AV
  | [x0, x1] => (unI .u32 x0).bind fun a0 => (unI .u32 x1).bind fun a1 => (pick fun k => nat_divmod.f k a0 a1).map fun r => (.tup [(rowI .u32 r.1), (rowI .u32 r.2)])
  | _ => none
noncomputable def SV158 : List AV → Option AV
  | [x0, x1] => (unI .u32 x0).bind fun a0 => (unI .u32 x1).bind fun a1 => (pick fun k => nat_DivMod.f k a0 a1).map fun r => (.tup [(rowI .u32 r.1), (rowI .u32 r.2.1), (.int .i64 r.2.2)])
  | _ => none
noncomputable def SV157 : List AV → Option AV
  | [x0, x1] => (unI .u32 x0).bind fun a0 => (unI .u32 x1).bind fun a1 => (pick fun k => nat_Gcd.f k a0 a1).map fun r => (rowI .u32 r)
  | _ => none
noncomputable def SV95 : List AV → Option AV
  | [x0, x1] => (unI .u32 x0).bind fun a0 => (unI .u32 x1).bind fun a1 => (pick fun k => nat_Cmp.f k a0 a1).map fun r => (.int .i64 r)
  | _ => none
noncomputable def SV170 : List AV → Option AV
  | [x0] => (unI .u32 x0).bind fun a0 => (pick fun k => nat_size.f k a0).map fun r => (.int .i64 r)
  | _ => none
noncomputable def SV147 : List AV → Option AV
  | [x0] => (unI .u32 x0).bind fun a0 => (pick fun k => nat_Bits.f k a0).map fun r => (.int .i64 r)
  | _ => none
noncomputable def SV116 : List AV → Option AV
  | [x0] => (unI .i64 x0).bind fun a0 => (pick fun k => zelligeref03_Trim.f k a0).map fun r => (rowI .i64 r)
  | _ => none
noncomputable def SV68 : List AV → Option AV
  | [x0] => (unI .u32 x0).bind fun a0 => (pick fun k => zelligeref03_Of.f k a0).map fun r => (rowI .i64 r)
  | _ => none
noncomputable def SV119 : List AV → Option AV
  | [x0, x1] => (unI .i64 x0).bind fun a0 => (unI .i64 x1).bind fun a1 => (pick fun k => zelligeref03_Cmp.f k a0 a1).map fun r => (.int .i64 r)
  | _ => none
noncomputable def SV115 : List AV → Option AV
  | [x0] => (unI .i64 x0).bind fun a0 => (pick fun k => zelligeref03_Nat.f k a0).map fun r => (rowI .u32 r)
  | _ => none
noncomputable def SV67 : List AV → Option AV
  | [x0, x1] => (unI .u32 x0).bind fun a0 => (unI .i64 x1).bind fun a1 => (pick fun k => zelligeref03_Same.f k a0 a1).map fun r => (.bool r)
  | _ => none
noncomputable def SV118 : List AV → Option AV
  | [x0, x1] => (unI .i64 x0).bind fun a0 => (unI .i64 x1).bind fun a1 => (pick fun k => zelligeref03_Add.f k a0 a1).map fun r => (rowI .i64 r)
  | _ => none
noncomputable def SV79 : List AV → Option AV
  | [x0, x1] => (unI .i64 x0).bind fun a0 => (unI .i64 x1).bind fun a1 => (pick fun k => zelligeref03_Mul.f k a0 a1).map fun r => (rowI .i64 r)
  | _ => none
noncomputable def SV120 : List AV → Option AV
  | [x0, x1] => (unI .i64 x0).bind fun a0 => (unI .i64 x1).bind fun a1 => (pick fun k => zelligeref03_Sub.f k a0 a1).map fun r => (rowI .i64 r)
  | _ => none
noncomputable def SV110 : List AV → Option AV
  | [x0, x1] => (unI .i64 x0).bind fun a0 => (unI .i64 x1).bind fun a1 => (pick fun k => zelligeref03_DivMod.f k a0 a1).map fun r => (.tup [(rowI .i64 r.1), (rowI .i64 r.2)])
  | _ => none
noncomputable def SV155 : List AV → Option AV
  | [x0] => (unI .i64 x0).bind fun a0 => (pick fun k => zelligeref03_Half.f k a0).map fun r => (rowI .i64 r)
  | _ => none
noncomputable def SV109 : List AV → Option AV
  | [x0, x1] => (unI .i64 x0).bind fun a0 => (unI .i64 x1).bind fun a1 => (pick fun k => zelligeref03_Gcd.f k a0 a1).map fun r => (rowI .i64 r)
  | _ => none
noncomputable def SV91 : List AV → Option AV
  | [x0, x1] => (unB x0).bind fun a0 => (unI .u32 x1).bind fun a1 => (pick fun k => whole_norm.f k a0 a1).map fun r => (.agg [(.bool r.1), (rowI .u32 r.2)])
  | _ => none
noncomputable def SV156 : List AV → Option AV
  | [.agg [x0, x1]] => (unB x0).bind fun a0 => (unI .u32 x1).bind fun a1 => (pick fun k => whole_Norm.f k a0 a1).map fun r => (.agg [(.bool r.1), (rowI .u32 r.2)])
  | _ => none
noncomputable def SV104 : List AV → Option AV
  | [.agg [x0, x1], .agg [x2, x3]] => (unB x0).bind fun a0 => (unI .u32 x1).bind fun a1 => (unB x2).bind fun a2 => (unI .u32 x3).bind fun a3 => (pick fun k => whole_add.f k a0 a1 a2 a3).map fun r => (.agg [(.bool r.1), (rowI .u32 r.2)])
  | _ => none
noncomputable def SV58 : List AV → Option AV
  | [.agg [x0, x1], .agg [x2, x3]] => (unB x0).bind fun a0 => (unI .u32 x1).bind fun a1 => (unB x2).bind fun a2 => (unI .u32 x3).bind fun a3 => (pick fun k => whole_Add.f k a0 a1 a2 a3).map fun r => (.agg [(.bool r.1), (rowI .u32 r.2)])
  | _ => none
noncomputable def SV153 : List AV → Option AV
  | [.agg [x0, x1]] => (unB x0).bind fun a0 => (unI .u32 x1).bind fun a1 => (pick fun k => whole_neg.f k a0 a1).map fun r => (.agg [(.bool r.1), (rowI .u32 r.2)])
  | _ => none
noncomputable def SV113 : List AV → Option AV
  | [.agg [x0, x1]] => (unB x0).bind fun a0 => (unI .u32 x1).bind fun a1 => (pick fun k => whole_Neg.f k a0 a1).map fun r => (.agg [(.bool r.1), (rowI .u32 r.2)])
  | _ => none
noncomputable def SV106 : List AV → Option AV
  | [.agg [x0, x1], .agg [x2, x3]] => (unB x0).bind fun a0 => (unI .u32 x1).bind fun a1 => (unB x2).bind fun a2 => (unI .u32 x3).bind fun a3 => (pick fun k => whole_Sub.f k a0 a1 a2 a3).map fun r => (.agg [(.bool r.1), (rowI .u32 r.2)])
  | _ => none
noncomputable def SV47 : List AV → Option AV
  | [.agg [x0, x1], .agg [x2, x3]] => (unB x0).bind fun a0 => (unI .u32 x1).bind fun a1 => (unB x2).bind fun a2 => (unI .u32 x3).bind fun a3 => (pick fun k => whole_Mul.f k a0 a1 a2 a3).map fun r => (.agg [(.bool r.1), (rowI .u32 r.2)])
  | _ => none
noncomputable def SV94 : List AV → Option AV
  | [.agg [x0, x1]] => (unB x0).bind fun a0 => (unI .u32 x1).bind fun a1 => (pick fun k => whole_sign.f k a0 a1).map fun r => (.int .i64 r)
  | _ => none
noncomputable def SV111 : List AV → Option AV
  | [.agg [x0, x1]] => (unB x0).bind fun a0 => (unI .u32 x1).bind fun a1 => (pick fun k => whole_Sign.f k a0 a1).map fun r => (.int .i64 r)
  | _ => none
noncomputable def SV50 : List AV → Option AV
  | [.agg [x0, x1], .agg [x2, x3]] => (unB x0).bind fun a0 => (unI .u32 x1).bind fun a1 => (unB x2).bind fun a2 => (unI .u32 x3).bind fun a3 => (pick fun k => whole_Cmp.f k a0 a1 a2 a3).map fun r => (.int .i64 r)
  | _ => none
noncomputable def SV48 : List AV → Option AV
  | [x0] => (unN .i64 x0).bind fun a0 => (pick fun k => whole_Of.f k a0).map fun r => (.agg [(.bool r.1), (rowI .u32 r.2)])
  | _ => none
noncomputable def SV78 : List AV → Option AV
  | [x0, x1] => (unN .i64 x0).bind fun a0 => (unI .i64 x1).bind fun a1 => (zelligeref04_make1.f a0 a1).map fun r => (.agg [(.int .i64 r.1), (rowI .i64 r.2)])
  | _ => none
noncomputable def SV69 : List AV → Option AV
  | [.agg [x0, x1]] => (unB x0).bind fun a0 => (unI .u32 x1).bind fun a1 => (pick fun k => zelligeref04_Of.f k a0 a1).map fun r => (.agg [(.int .i64 r.1), (rowI .i64 r.2)])
  | _ => none
noncomputable def SV41 : List AV → Option AV
  | [x0] => (unN .i64 x0).bind fun a0 => (pick fun k => zelligeref04_Long.f k a0).map fun r => (.agg [(.int .i64 r.1), (rowI .i64 r.2)])
  | _ => none
noncomputable def SV66 : List AV → Option AV
  | [.agg [x0, x1], .agg [x2, x3]] => (unB x0).bind fun a0 => (unI .u32 x1).bind fun a1 => (unN .i64 x2).bind fun a2 => (unI .i64 x3).bind fun a3 => (pick fun k => zelligeref04_Same.f k a0 a1 a2 a3).map fun r => (.bool r)
  | _ => none
noncomputable def SV72 : List AV → Option AV
  | [.agg [x0, x1], .agg [x2, x3]] => (unN .i64 x0).bind fun a0 => (unI .i64 x1).bind fun a1 => (unN .i64 x2).bind fun a2 => (unI .i64 x3).bind fun a3 => (pick fun k => zelligeref04_Add.f k a0 a1 a2 a3).map fun r => (.agg [(.int .i64 r.1), (rowI .i64 r.2)])
  | _ => none
noncomputable def SV126 : List AV → Option AV
  | [.agg [x0, x1]] => (unN .i64 x0).bind fun a0 => (unI .i64 x1).bind fun a1 => (zelligeref04_Neg.f a0 a1).map fun r => (.agg [(.int .i64 r.1), (rowI .i64 r.2)])
  | _ => none
noncomputable def SV74 : List AV → Option AV
  | [.agg [x0, x1], .agg [x2, x3]] => (unN .i64 x0).bind fun a0 => (unI .i64 x1).bind fun a1 => (unN .i64 x2).bind fun a2 => (unI .i64 x3).bind fun a3 => (pick fun k => zelligeref04_Sub.f k a0 a1 a2 a3).map fun r => (.agg [(.int .i64 r.1), (rowI .i64 r.2)])
  | _ => none
noncomputable def SV35 : List AV → Option AV
  | [.agg [x0, x1], .agg [x2, x3]] => (unN .i64 x0).bind fun a0 => (unI .i64 x1).bind fun a1 => (unN .i64 x2).bind fun a2 => (unI .i64 x3).bind fun a3 => (pick fun k => zelligeref04_Mul.f k a0 a1 a2 a3).map fun r => (.agg [(.int .i64 r.1), (rowI .i64 r.2)])
  | _ => none
noncomputable def SV31 : List AV → Option AV
  | [.agg [x0, x1], .agg [x2, x3]] => (unN .i64 x0).bind fun a0 => (unI .i64 x1).bind fun a1 => (unN .i64 x2).bind fun a2 => (unI .i64 x3).bind fun a3 => (pick fun k => zelligeref04_Cmp.f k a0 a1 a2 a3).map fun r => (.int .i64 r)
  | _ => none
noncomputable def SV : FuncId → List AV → Option AV
  | 145 => SV145
  | 148 => SV148
  | 194 => SV194
  | 181 => SV181
  | 192 => SV192
  | 146 => SV146
  | 151 => SV151
  | 171 => SV171
  | 152 => SV152
  | 92 => SV92
  | 93 => SV93
  | 144 => SV144
  | 186 => SV186
  | 172 => SV172
  | 158 => SV158
  | 157 => SV157
  | 95 => SV95
  | 170 => SV170
  | 147 => SV147
  | 116 => SV116
  | 68 => SV68
  | 119 => SV119
  | 115 => SV115
  | 67 => SV67
  | 118 => SV118
  | 79 => SV79
  | 120 => SV120
  | 110 => SV110
  | 155 => SV155
  | 109 => SV109
  | 91 => SV91
  | 156 => SV156
  | 104 => SV104
  | 58 => SV58
  | 153 => SV153
  | 113 => SV113
  | 106 => SV106
  | 47 => SV47
  | 94 => SV94
  | 111 => SV111
  | 50 => SV50
  | 48 => SV48
  | 78 => SV78
  | 69 => SV69
  | 41 => SV41
  | 66 => SV66
  | 72 => SV72
  | 126 => SV126
  | 74 => SV74
  | 35 => SV35
  | 31 => SV31
  | _ => fun _ => none
attribute [simp] SV SV145 SV148 SV194 SV181 SV192 SV146 SV151 SV171 SV152 SV92 SV93 SV144 SV186 SV172 SV158 SV157 SV95 SV170 SV147 SV116 SV68 SV119 SV115 SV67 SV118 SV79 SV120 SV110 SV155 SV109 SV91 SV156 SV104 SV58 SV153 SV113 SV106 SV47 SV94 SV111 SV50 SV48 SV78 SV69 SV41 SV66 SV72 SV126 SV74 SV35 SV31
noncomputable def SR146 : List AV → List Blk → List Bool → Option (AV × List Blk × List Bool)
  | [x], [], [] => (unI .u32 x).bind fun l => (api_Nat_uint32.f l).map fun r => (.own 1 0 r.length 1, [.gone, .arr (r.map (.int .u32))], [false, false])
  | _, _, _ => none
noncomputable def SR185 : List AV → List Blk → List Bool → Option (AV × List Blk × List Bool)
  | [.own 0 0 n 1, .int .u32 b], [.arr cs], [false] => (unC .u32 cs).bind fun l => if n ≤ l.length then (pick fun k => nat_short.f k (l.take n) b).map fun r => (.int .u32 r.1, [.arr (r.2.map (.int .u32) ++ (l.drop n).map (.int .u32))], [false]) else none
  | _, _, _ => none
noncomputable def SR193 : List AV → List Blk → List Bool → Option (AV × List Blk × List Bool)
  | [x, .int .i64 b], [], [] => (unI .u32 x).bind fun l => (pick fun k => nat_shift.f k l b).map fun r => (.own 2 0 r.length 1, [.gone, .arr [.int .u32 (r.getLast?.getD 0)], .arr (r.map (.int .u32))], [false, false, false])
  | _, _, _ => none
noncomputable def SR145 : List AV → List Blk → List Bool → Option (AV × List Blk × List Bool)
  | [.row n cs], [], [] => (SV145 [.row n cs]).map fun r => (r, [], [])
  | [.own 0 0 n 1], [.arr cs], [false] => (unC .u32 cs).bind fun l => if n ≤ l.length then (pick fun k => nat_trim.f k (l.take n)).map fun r => (.own 0 0 r.length 1, [.arr cs], [false]) else none
  | _, _, _ => none
noncomputable def SR195 : List AV → List Blk → List Bool → Option (AV × List Blk × List Bool)
  | [.own 0 o n 1, .own 1 0 m 1, .int .u64 q], [.arr cs, .arr ds], [false, false] => (unC .u32 cs).bind fun u => (unC .u32 ds).bind fun v => if o + n ≤ u.length ∧ m ≤ v.length then (pick fun k => nat_off.f k ((u.drop o).take n) (v.take m) q).map fun r => (.bool r.1, [.arr ((u.take o).map (.int .u32) ++ (r.2.map (.int .u32) ++ (u.drop (o + n)).map (.int .u32))), .arr ds], [false, false]) else none
  | _, _, _ => none
noncomputable def SR196 : List AV → List Blk → List Bool → Option (AV × List Blk × List Bool)
  | [.own 0 o n 1, .own 1 0 m 1], [.arr cs, .arr ds], [false, false] => (unC .u32 cs).bind fun u => (unC .u32 ds).bind fun v => if o + n ≤ u.length ∧ m ≤ v.length then (pick fun k => nat_back.f k ((u.drop o).take n) (v.take m)).map fun r => (.tup [], [.arr ((u.take o).map (.int .u32) ++ (r.map (.int .u32) ++ (u.drop (o + n)).map (.int .u32))), .arr ds], [false, false]) else none
  | _, _, _ => none
noncomputable def SR91112 : List AV → List Blk → List Bool → Option (AV × List Blk × List Bool)
  | [.own 0 0 n 1], [.arr cs], [false] => (unC .u8 cs).bind fun l => if n ≤ l.length then (pick fun k => slices_Reverse_byte_byte.f k (l.take n)).map fun r => (.tup [], [.arr (r.map (.int .u8) ++ (l.drop n).map (.int .u8))], [false]) else none
  | _, _, _ => none
noncomputable def SR : FuncId → List AV → List Blk → List Bool → Option (AV × List Blk × List Bool)
  | 146 => SR146
  | 185 => SR185
  | 193 => SR193
  | 145 => SR145
  | 195 => SR195
  | 196 => SR196
  | 91112 => SR91112
  | _ => fun _ _ _ => none
attribute [simp] SR146 SR185 SR193 SR145 SR195 SR196 SR91112
theorem isBytes_map : ∀ (l : List Int), isBytes (l.map (.int .u8)) = some l
  | [] => rfl
  | a :: l => by simp [isBytes, isBytes_map l]
attribute [simp] isBytes_map
def keepT (l : List (Nat × List Nat)) (i : Nat) : List Nat := ((l.find? (·.1 == i)).map (·.2)).getD []
def depT (l : List (Nat × List (List Nat × List Nat × Bool))) (i : Nat) : List (List Nat × List Nat × Bool) := ((l.find? (·.1 == i)).map (·.2)).getD []
noncomputable def mkE (ref L : List FuncId) (kt : List (Nat × List Nat)) (dt : List (Nat × List (List Nat × List Nat × Bool))) : Env := ⟨Tryz.prog, fun f => ref.contains f, fun f xs => if L.contains f then SV f (xs.map wk) else none, fun f xs h z => if L.contains f then SR f xs h z else none, keepT kt, depT dt, fun _ _ => none⟩
theorem mk_P {ref L : List FuncId} {kt : List (Nat × List Nat)} {dt : List (Nat × List (List Nat × List Nat × Bool))} : (mkE ref L kt dt).P = Tryz.prog := rfl
theorem mk_ref {ref L : List FuncId} {kt : List (Nat × List Nat)} {dt : List (Nat × List (List Nat × List Nat × Bool))} {f : FuncId} : (mkE ref L kt dt).ref f = ref.contains f := rfl
theorem mk_call {ref L : List FuncId} {kt : List (Nat × List Nat)} {dt : List (Nat × List (List Nat × List Nat × Bool))} {f : FuncId} {xs : List AV} : (mkE ref L kt dt).call f xs = if L.contains f then SV f (xs.map wk) else none := rfl
theorem mk_callR {ref L : List FuncId} {kt : List (Nat × List Nat)} {dt : List (Nat × List (List Nat × List Nat × Bool))} {f : FuncId} {xs : List AV} {h : List Blk} {z : List Bool} : (mkE ref L kt dt).callR f xs h z = if L.contains f then SR f xs h z else none := rfl
theorem mk_keep {ref L : List FuncId} {kt : List (Nat × List Nat)} {dt : List (Nat × List (List Nat × List Nat × Bool))} {i : Nat} : (mkE ref L kt dt).keep i = keepT kt i := rfl
theorem sh_shl (k : IntKind) (a b : Int) : shiftA .shl k a b = if b < 0 then none else some (.int k (shl k a b)) := rfl
theorem sh_shr (k : IntKind) (a b : Int) : shiftA .shr k a b = if b < 0 then none else some (.int k (shr k a b)) := by
  unfold shiftA shr; split
  · rfl
  · rw [Int.fdiv_eq_ediv_of_nonneg]; exact Int.le_of_lt (Int.pow_pos (by decide))
theorem shl32 (a : Int) : shl .u64 a 32 = IntKind.u64.wrap (a * 4294967296) := rfl
theorem shr32 (a : Int) : shr .u64 a 32 = a / 4294967296 := rfl
theorem shr63 (a : Int) : shr .u64 a 63 = a / 9223372036854775808 := rfl
theorem shr16 (a : Int) : shr .u32 a 16 = a / 65536 := rfl
theorem shr8 (a : Int) : shr .u32 a 8 = a / 256 := rfl
attribute [simp] shr16 shr8 sh_shl sh_shr shl32 shr32 shr63
theorem mk_dep {ref L : List FuncId} {kt : List (Nat × List Nat)} {dt : List (Nat × List (List Nat × List Nat × Bool))} {i : Nat} : (mkE ref L kt dt).dep i = depT dt i := rfl
theorem depT_nil (i : Nat) : depT [] i = [] := rfl
theorem depT_cons (a i : Nat) (x : List (List Nat × List Nat × Bool)) (l : List (Nat × List (List Nat × List Nat × Bool))) : depT ((a, x) :: l) i = if a = i then x else depT l i := by
  unfold depT
  by_cases h : a = i
  · simp [h]
  · simp [h]
theorem baSize (a : Array UInt8) : (ByteArray.mk a).size = a.size := rfl
attribute [simp] depT_nil depT_cons baSize mk_dep Op.operands bneT bneF w64_eq w32_eq ltT ltF leT leF nltT nltF nleT nleF app1 app4 app8 mk4 mk8 maxS fr rowI List.replicate mk_P mk_ref mk_call mk_callR mk_keep unI unC unC_map beqT beqF fdivP take_map IntKind.bits List.filter_cons List.filter_nil List.take_of_length_le List.map_append List.getElem?_append_left List.getElem?_append_right List.set_append_left List.set_append_right wk wk1 wk2 SR unN unB keepT
theorem get_rd0 (l : List Int) (f : Int → AV) (h1 : (0 : Int) < l.length) : (l.map f)[0]? = some (f (rd l 0)) := get_rd l f 0 (Int.le_refl _) h1
theorem unC_td (k : IntKind) (l : List Int) (n o : Nat) : unC k (((l.map (.int k)).drop o).take n) = some ((l.drop o).take n) := by
  rw [← List.map_drop, ← List.map_take, unC_map]
theorem unC_apps (k : IntKind) : ∀ (a b : List AV), unC k (a ++ b) = (unC k a).bind fun l => (unC k b).map (l ++ ·)
  | [], b => by simp [unC]
  | c :: a, b => by
    cases c <;> simp only [List.cons_append, unC] <;> try rfl
    split
    · rw [unC_apps k a b]; cases unC k a <;> cases unC k b <;> simp
    · rfl
theorem unC_take (k : IntKind) (l : List Int) (n : Nat) : unC k ((l.map (.int k)).take n) = some (l.take n) := by rw [← List.map_take, unC_map]
theorem unC_drop (k : IntKind) (l : List Int) (n : Nat) : unC k ((l.map (.int k)).drop n) = some (l.drop n) := by rw [← List.map_drop, unC_map]
theorem take_app2 {α : Type} (a b c : List α) : (a ++ (b ++ c)).take (a.length + b.length) = a ++ b := by
  rw [← List.append_assoc, List.take_append_of_le_length (by simp), List.take_of_length_le (by simp)]
theorem take_mapp {α β : Type} (f : α → β) (l : List α) (m : List β) : (l.map f ++ m).take l.length = l.map f := by
  rw [List.take_append_of_le_length (by simp), List.take_of_length_le (by simp)]
attribute [simp] take_mapp take_app2 unC_td unC_apps unC_take unC_drop
theorem bt_get (d : Array UInt8) (i : Int) (h0 : 0 ≤ i) (h1 : i < d.size) : d[i.toNat]? = some (UInt8.ofNat (bt ⟨d⟩ i).toNat) := by
  have h : i.toNat < d.size := by omega
  have e : bt ⟨d⟩ i = ((d[i.toNat]'h).toNat : Int) := by
    unfold bt; rw [dif_pos (show i.toNat < (ByteArray.mk d).size from h)]; rfl
  rw [e]; simp [h]
theorem bt_nat (b : ByteArray) (i : Int) : ((UInt8.ofNat (bt b i).toNat).toNat : Int) = bt b i := by
  obtain ⟨h0, h1⟩ := bt_range b i
  simp; omega
theorem lbt_get (d : List UInt8) (i : Int) (h0 : 0 ≤ i) (h1 : i < d.length) : d[i.toNat]? = some (UInt8.ofNat (bt ⟨d.toArray⟩ i).toNat) := by
  have := bt_get d.toArray i h0 (by simpa using h1)
  simpa using this
theorem w8_eq (n : Int) : IntKind.u8.wrap n = n % 256 := by
  simp [IntKind.wrap, IntKind.signed, IntKind.bits]
theorem w64_24 : wrap64 24 = 24 := by unfold wrap64; rfl
theorem w64_8 : wrap64 8 = 8 := by unfold wrap64; rfl
attribute [simp high] lbt_get bt_get
theorem bt_max (b : ByteArray) (i : Int) : max (bt b i) 0 % 256 = bt b i := by
  obtain ⟨h0, h1⟩ := bt_range b i
  omega
attribute [simp] bt_max w64_24 w64_8 w8_eq bt_nat
theorem get_app (l : List Int) (m : List AV) (f : Int → AV) (i : Int) (h0 : 0 ≤ i) (h1 : i < l.length) : (l.map f ++ m)[i.toNat]? = some (f (rd l i)) := by
  rw [List.getElem?_append_left (by simp; omega)]; exact get_rd l f i h0 h1
theorem get_app2 (a l : List Int) (m : List AV) (f g : Int → AV) (i : Int) (h0 : 0 ≤ i) (h1 : i < l.length) : (a.map g ++ (l.map f ++ m))[a.length + i.toNat]? = some (f (rd l i)) := by
  rw [List.getElem?_append_right (by simp)]; simpa using get_app l m f i h0 h1
theorem set_app2 (a : List Int) (l m : List AV) (g : Int → AV) (i : Nat) (v : AV) (h1 : i < l.length) : (a.map g ++ (l ++ m)).set (a.length + i) v = a.map g ++ (l.set i v ++ m) := by
  rw [List.set_append_right _ _ (by simp)]; simp only [List.length_map, Nat.add_sub_cancel_left]; rw [List.set_append_left _ _ h1]
attribute [simp high] get_app get_app2 set_app2 get_rd0 get_rd List.getElem?_cons_zero List.getElem?_cons_succ
theorem short_l0_len : ∀ (k : Nat) (l : List Int) (a b i : Int) (r : Int × List Int), nat_short.l0 k l a b i = some r → r.2.length = l.length := by
  intro k
  induction k with
  | zero => intro l a b i r h; simp [nat_short.l0] at h
  | succ k ih =>
    intro l a b i r h
    simp only [nat_short.l0] at h
    repeat' split at h
    all_goals first | (simp only [reduceCtorEq] at h; done) | (with_reducible obtain rfl := Option.some.inj h; rfl) | (rw [ih _ _ _ _ _ h]; simp)
theorem short_len {k : Nat} {l : List Int} {a : Int} {r : Int × List Int} (h : nat_short.f k l a = some r) : r.2.length = l.length := short_l0_len k l a _ _ r h
theorem offX_out {k : Nat} {u v : List Int} {lo hi q : Int} {r : Bool × List Int} (h : nat_offX.f k u lo hi v q = some r) : 0 ≤ lo ∧ lo < hi ∧ hi ≤ u.length ∧ ∃ b, (pick fun k => nat_off.f k ((u.drop lo.toNat).take (hi.toNat - lo.toNat)) v q) = some b ∧ b.2.length = hi.toNat - lo.toNat ∧ r = (b.1, u.take lo.toNat ++ b.2 ++ u.drop hi.toNat) := by
  unfold nat_offX.f at h
  split at h
  · rename_i c
    obtain ⟨b, e, h⟩ := Option.bind_eq_some_iff.1 h
    rw [List.drop_take] at e
    split at h
    · rename_i cl
      exact ⟨c.1, c.2.1, c.2.2, b, pick_of (fun k r h => nat_off.mono _ _ _ k r h) e, cl, (Option.some.inj h).symm⟩
    · cases h
  · cases h
theorem backX_out {k : Nat} {u v : List Int} {lo hi : Int} {r : List Int} (h : nat_backX.f k u lo hi v = some r) : 0 ≤ lo ∧ lo < hi ∧ hi ≤ u.length ∧ ∃ b, (pick fun k => nat_back.f k ((u.drop lo.toNat).take (hi.toNat - lo.toNat)) v) = some b ∧ b.length = hi.toNat - lo.toNat ∧ r = u.take lo.toNat ++ b ++ u.drop hi.toNat := by
  unfold nat_backX.f at h
  split at h
  · rename_i c
    obtain ⟨b, e, h⟩ := Option.bind_eq_some_iff.1 h
    rw [List.drop_take] at e
    split at h
    · rename_i cl
      exact ⟨c.1, c.2.1, c.2.2, b, pick_of (fun k r h => nat_back.mono _ _ k r h) e, cl, (Option.some.inj h).symm⟩
    · cases h
  · cases h
theorem trim_l0_pre : ∀ (k : Nat) (l r : List Int), nat_trim.l0 k l = some r → ∃ n, n ≤ l.length ∧ r = l.take n := by
  intro k
  induction k with
  | zero => intro l r h; simp [nat_trim.l0] at h
  | succ k ih =>
    intro l r h
    simp only [nat_trim.l0] at h
    repeat' split at h
    all_goals first | (simp only [reduceCtorEq] at h; done) | (with_reducible obtain rfl := Option.some.inj h; exact ⟨_, Nat.le_refl _, by simp⟩) | (obtain ⟨n, hn, rfl⟩ := ih _ _ h; exact ⟨n, by simp at hn; omega, by rw [List.take_take, Nat.min_eq_left]; simp at hn; omega⟩)
theorem trim_pre {k : Nat} {l r : List Int} (h : nat_trim.f k l = some r) : ∃ t, l = r ++ t := by
  obtain ⟨n, _, rfl⟩ := trim_l0_pre k l r h
  exact ⟨l.drop n, (List.take_append_drop n l).symm⟩
end Go.Proofs.YtofklpmlgfbmlaaGreat.ZRat
/- What the walks give: functions' meanings hold. -/
namespace Go.Proofs.YtofklpmlgfbmlaaGreat.ZRat
open Go.RowKit Go.Proofs.YtofklpmlgfbmlaaGreat.Wd
open Go Go.Proofs.YtofklpmlgfbmlaaGreat.Ab Go.Proofs
set_option linter.unusedSimpArgs false
set_option linter.unusedVariables false
theorem mixed : Tryz.prog.follows .mixedOrders = true := by kernel_rfl
def GoodV (f : FuncId) : Prop := ∀ xs r, SV f xs = some r → OkV Tryz.prog f xs r
def GoodR (f : FuncId) : Prop := ∀ xs h z v h' z', SR f xs h z = some (v, h', z') → OkR Tryz.prog f xs h z v h' z'
theorem all_nil {p : FuncId → Prop} : ∀ f ∈ ([] : List FuncId), p f := fun f h => by cases h
theorem all_cons {p : FuncId → Prop} {a : FuncId} {l : List FuncId} (h : p a) (t : ∀ f ∈ l, p f) : ∀ f ∈ a :: l, p f := fun f hf => by
  rcases List.mem_cons.1 hf with e | e
  · exact e ▸ h
  · exact t f e
theorem mkE_ok {ref L : List FuncId} {kt : List (Nat × List Nat)} {dt : List (Nat × List (List Nat × List Nat × Bool))} (hV : ∀ f ∈ L, GoodV f) (hR : ∀ f ∈ L, GoodR f) : EnvOk (mkE ref L kt dt) Tryz.prog := by
  refine ⟨rfl, fun f xs r h => ?_, fun f xs h z v h' z' hr => ?_, fun _ _ _ h => by simp [mkE] at h⟩
  · simp only [mk_call] at h
    split at h
    · rename_i hc; exact .inl (OkV.wkA (hV f (by simpa using hc) _ _ h))
    · cases h
  · simp only [mk_callR] at hr
    split at hr
    · rename_i hc; exact hR f (by simpa using hc) _ _ _ _ _ _ hr
    · cases hr
theorem unB_eq {x : AV} {b : Bool} (h : unB x = some b) : x = .bool b := by cases x <;> simp only [unB, reduceCtorEq] at h; cases h; rfl
theorem unN_eq {k : IntKind} {x : AV} {n : Int} (h : unN k x = some n) : x = .int k n := by
  cases x <;> simp only [unN, reduceCtorEq] at h
  split at h
  · rename_i e; subst e; cases h; rfl
  · cases h
theorem okR_ofV {P : Program} {f : FuncId} {n m : Nat} {cs ds : List AV} (h : OkV P f [.row n cs] (.row m ds)) : OkR P f [.row n cs] [] [] (.row m ds) [] [] :=
  ⟨h.1, fun K ρ S w args H ha => (h.2 S w args H.sb ⟨ha.1, fun j c hj => by
    obtain ⟨v, hv, hp⟩ := ha.2 j c hj
    refine ⟨v, hv, ?_⟩
    cases j with
    | zero => simp at hj; subst hj; exact hp
    | succ j => simp at hj⟩).mono fun e w' ⟨v, S', he, hv, X⟩ => ⟨v, ρ, S', he, hv, (H.later X).1, (H.later X).2⟩⟩
end Go.Proofs.YtofklpmlgfbmlaaGreat.ZRat
namespace Go.Proofs.YtofklpmlgfbmlaaGreat.ZRat
open Go.RowKit Go.Proofs.YtofklpmlgfbmlaaGreat.Wd
open Go Go.Proofs.YtofklpmlgfbmlaaGreat.Ab Go.Proofs
set_option linter.unusedSimpArgs false
set_option linter.unusedVariables false
set_option maxHeartbeats 4000000
set_option maxRecDepth 10000
noncomputable def E145 : Env := mkE [] [] [(1, [0])] []
theorem n145_ls (r : (List Int)) (k : Nat) : (∀ (x0 : List Int), nat_trim.l0 k x0 = some r → AEnds E145 (finW Tryz.prog Tryz.f145.results) 0 (atLoop Tryz.f145 1) ⟨fr 21 [(0, (rowI .u32 x0))], [], []⟩ (rowI .u32 r)) := by
  induction k using Nat.strongRecOn with
  | _ k ih =>
  intro x0 h
  cases k with
  | zero => simp [nat_trim.l0] at h
  | succ k1 =>
  simp only [nat_trim.l0] at h
  simp only [Tryz.f145, atLoop, seek, firstR, reduceIte, Option.getD_some, Nat.reduceEqDiff]
  rcases ite_some h with ⟨c2, h⟩ | ⟨c2, h⟩
  · rcases ite_some h with ⟨c3, h⟩ | ⟨c3, h⟩
    · rcases ite_some h with ⟨c4, h⟩ | ⟨c4, h⟩
      · rcases ite_some h with ⟨c5, h⟩ | ⟨c5, h⟩
        · rcases ite_some h with ⟨c6, h⟩ | ⟨c6, h⟩
          · simp (maxSteps := 2000000) (disch := (first | omega | (simp only [List.length_append, List.length_map, List.length_cons, List.length_nil, List.length_set, List.length_replicate, List.length_take, List.size_toArray]; omega))) [E145, c2, c3, c4, c5, c6]
            refine AEnds.againS ((ih k1 (by omega)) _  h) ?_
            simp only [E145, firstR, mk_keep, keepT, List.find?, Nat.reduceBEq, Option.map_some, Option.getD_some]
            simp (maxSteps := 2000000) (disch := (first | omega | (simp only [List.length_append, List.length_map, List.length_cons, List.length_nil, List.length_set, List.length_replicate, List.length_take, List.size_toArray]; omega))) [E145, c2, c3, c4, c5, c6]
            try omega
          · cases h
        · obtain rfl := Option.some.inj h
          simp (maxSteps := 2000000) (disch := (first | omega | (simp only [List.length_append, List.length_map, List.length_cons, List.length_nil, List.length_set, List.length_replicate, List.length_take, List.size_toArray]; omega))) [E145, c2, c3, c4, c5]
          try omega
      · cases h
    · cases h
  · obtain rfl := Option.some.inj h
    simp (maxSteps := 2000000) (disch := (first | omega | (simp only [List.length_append, List.length_map, List.length_cons, List.length_nil, List.length_set, List.length_replicate, List.length_take, List.size_toArray]; omega))) [E145, c2]
    try omega
theorem n145_run (k : Nat) (l0 : List Int) (r : (List Int)) (h : nat_trim.f k l0 = some r) : AEnds E145 (finW Tryz.prog Tryz.f145.results) 0 [.code (Tryz.f145.body.getD .skip)] (startA Tryz.f145 [(rowI .u32 l0)] [] []) (rowI .u32 r) := by
  unfold nat_trim.f at h
  simp only [Tryz.f145, Option.getD_some, startA]
  simp (maxSteps := 2000000) (disch := (first | omega | (simp only [List.length_append, List.length_map, List.length_cons, List.length_nil, List.length_set, List.length_replicate, List.length_take, List.size_toArray]; omega))) [E145]
  refine AEnds.loopS ((n145_ls _ _) _  h) ?_
  simp only [E145, firstR, mk_keep, keepT, List.find?, Nat.reduceBEq, Option.map_some, Option.getD_some]
  simp (maxSteps := 2000000) (disch := (first | omega | (simp only [List.length_append, List.length_map, List.length_cons, List.length_nil, List.length_set, List.length_replicate, List.length_take, List.size_toArray]; omega))) [E145]
  try omega
theorem fit145 : Fits Tryz.prog E145.ref E145.dep Tryz.f145 = true := by kernel_rfl
theorem good145 : GoodV 145 := by
  intro xs r h
  simp only [SV] at h
  unfold SV145 at h
  split at h
  · obtain ⟨a0, h0, h⟩ := Option.bind_eq_some_iff.1 h
    obtain ⟨q, hq, rfl⟩ := Option.map_eq_some_iff.1 h
    obtain ⟨k, hk⟩ := of_pick hq
    obtain rfl := unI_eq h0
    exact okW_ends (mkE_ok all_nil all_nil) mixed Tryz.func145 rfl fit145 (n145_run k _  _ hk)
  · cases h
noncomputable def E145R : Env := mkE [] [] [(1, [0])] []
theorem n145R_ls (B : List AV) (r : (List Int)) (k : Nat) : (∀ (x0 : List Int) (T : List AV), B = x0.map (.int .u32) ++ T → nat_trim.l0 k x0 = some r → AEnds E145R (finR Tryz.prog Tryz.f145.results) 1 (atLoop Tryz.f145 1) ⟨fr 21 [(0, .own 0 0 x0.length 1)], [.arr B], [false]⟩ (.own 0 0 r.length 1, [.arr B], [false])) := by
  induction k using Nat.strongRecOn with
  | _ k ih =>
  intro x0 T hB h
  subst hB
  cases k with
  | zero => simp [nat_trim.l0] at h
  | succ k1 =>
  simp only [nat_trim.l0] at h
  simp only [Tryz.f145, atLoop, seek, firstR, reduceIte, Option.getD_some, Nat.reduceEqDiff]
  rcases ite_some h with ⟨c2, h⟩ | ⟨c2, h⟩
  · rcases ite_some h with ⟨c3, h⟩ | ⟨c3, h⟩
    · rcases ite_some h with ⟨c4, h⟩ | ⟨c4, h⟩
      · rcases ite_some h with ⟨c5, h⟩ | ⟨c5, h⟩
        · rcases ite_some h with ⟨c6, h⟩ | ⟨c6, h⟩
          · simp (maxSteps := 2000000) (disch := (first | omega | (simp only [List.length_append, List.length_map, List.length_cons, List.length_nil, List.length_set, List.length_replicate, List.length_take, List.size_toArray]; omega))) [E145R, c2, c3, c4, c5, c6]
            refine AEnds.againS (ih k1 (by omega) (x0.take (wrap64 ((x0.length : Int) - 1)).toNat) ((x0.drop (wrap64 ((x0.length : Int) - 1)).toNat).map (.int .u32) ++ T) ?_ h) ?_
            · rw [← List.append_assoc, ← List.map_append, List.take_append_drop]
            simp only [E145R, firstR, mk_keep, keepT, List.find?, Nat.reduceBEq, Option.map_some, Option.getD_some]
            simp (maxSteps := 2000000) (disch := (first | omega | (simp only [List.length_append, List.length_map, List.length_cons, List.length_nil, List.length_set, List.length_replicate, List.length_take, List.size_toArray]; omega))) [E145R, c2, c3, c4, c5, c6]
            try omega
          · cases h
        · obtain rfl := Option.some.inj h
          simp (maxSteps := 2000000) (disch := (first | omega | (simp only [List.length_append, List.length_map, List.length_cons, List.length_nil, List.length_set, List.length_replicate, List.length_take, List.size_toArray]; omega))) [E145R, c2, c3, c4, c5]
      · cases h
    · cases h
  · obtain rfl := Option.some.inj h
    simp (maxSteps := 2000000) (disch := (first | omega | (simp only [List.length_append, List.length_map, List.length_cons, List.length_nil, List.length_set, List.length_replicate, List.length_take, List.size_toArray]; omega))) [E145R, c2]
theorem n145R_run (T : List AV) (k : Nat) (l0 : List Int) (r : (List Int)) (h : nat_trim.f k l0 = some r) : AEnds E145R (finR Tryz.prog Tryz.f145.results) 1 [.code (Tryz.f145.body.getD .skip)] (startA Tryz.f145 [.own 0 0 l0.length 1] [.arr (l0.map (.int .u32) ++ T)] [false]) (.own 0 0 r.length 1, [.arr (l0.map (.int .u32) ++ T)], [false]) := by
  unfold nat_trim.f at h
  simp only [Tryz.f145, Option.getD_some, startA]
  simp (maxSteps := 2000000) (disch := (first | omega | (simp only [List.length_append, List.length_map, List.length_cons, List.length_nil, List.length_set, List.length_replicate, List.length_take, List.size_toArray]; omega))) [E145R]
  refine AEnds.loopS (n145R_ls _ _ _ _ T rfl h) ?_
  simp only [E145R, firstR, mk_keep, keepT, List.find?, Nat.reduceBEq, Option.map_some, Option.getD_some]
  simp (maxSteps := 2000000) (disch := (first | omega | (simp only [List.length_append, List.length_map, List.length_cons, List.length_nil, List.length_set, List.length_replicate, List.length_take, List.size_toArray]; omega))) [E145R]
theorem goodR145x (hV : GoodV 145) : GoodR 145 := by
  intro xs h z v h' z' hr
  simp only [SR] at hr
  unfold SR145 at hr
  split at hr
  · rename_i n cs
    obtain ⟨q, hq, e⟩ := Option.map_eq_some_iff.1 hr
    cases e
    have := hV [.row n cs] _ (by simp only [SV]; exact hq)
    unfold SV145 at hq
    obtain ⟨l, hl, hq⟩ := Option.bind_eq_some_iff.1 hq
    obtain ⟨q, hq, rfl⟩ := Option.map_eq_some_iff.1 hq
    exact okR_ofV this
  · rename_i n cs
    obtain ⟨l, hl, hr⟩ := Option.bind_eq_some_iff.1 hr
    split at hr
    · rename_i hn
      obtain ⟨q, hq, e⟩ := Option.map_eq_some_iff.1 hr
      obtain ⟨k, hk⟩ := of_pick hq
      have := n145R_run ((l.drop n).map (.int .u32)) k (l.take n) q hk
      rw [← List.map_append, List.take_append_drop, List.length_take, Nat.min_eq_left hn, ← unC_eq hl, e] at this
      exact okR_ends (mkE_ok all_nil all_nil) mixed Tryz.func145 rfl (by kernel_rfl : Fits Tryz.prog E145R.ref E145R.dep Tryz.f145 = true) this
    · cases hr
  · cases hr

theorem goodR145 : GoodR 145 := goodR145x good145
end Go.Proofs.YtofklpmlgfbmlaaGreat.ZRat
namespace Go.Proofs.YtofklpmlgfbmlaaGreat.ZRat
open Go.RowKit Go.Proofs.YtofklpmlgfbmlaaGreat.Wd
open Go Go.Proofs.YtofklpmlgfbmlaaGreat.Ab Go.Proofs
set_option linter.unusedSimpArgs false
set_option linter.unusedVariables false
set_option maxHeartbeats 4000000
set_option maxRecDepth 10000
noncomputable def E148 : Env := mkE [] [145] [(7, [0, 1, 5])] []
theorem n148_ls (r : (Int)) (k : Nat) : (∀ (x0 : List Int) (x1 : List Int) (x5 : Int), nat_cmp.l0 k x0 x1 x5 = some r → AEnds E148 (finW Tryz.prog Tryz.f148.results) 0 (atLoop Tryz.f148 7) ⟨fr 47 [(0, (rowI .u32 x0)), (1, (rowI .u32 x1)), (5, (.int .i64 x5))], [], []⟩ (.int .i64 r)) := by
  induction k using Nat.strongRecOn with
  | _ k ih =>
  intro x0 x1 x5 h
  cases k with
  | zero => simp [nat_cmp.l0] at h
  | succ k1 =>
  simp only [nat_cmp.l0] at h
  simp only [Tryz.f148, atLoop, seek, firstR, reduceIte, Option.getD_some, Nat.reduceEqDiff]
  rcases ite_some h with ⟨c2, h⟩ | ⟨c2, h⟩
  · rcases ite_some h with ⟨c3, h⟩ | ⟨c3, h⟩
    · rcases ite_some h with ⟨c4, h⟩ | ⟨c4, h⟩
      · rcases ite_some h with ⟨c5, h⟩ | ⟨c5, h⟩
        · rcases ite_some h with ⟨c6, h⟩ | ⟨c6, h⟩
          · obtain rfl := Option.some.inj h
            simp (maxSteps := 2000000) (disch := (first | omega | (simp only [List.length_append, List.length_map, List.length_cons, List.length_nil, List.length_set, List.length_replicate, List.length_take, List.size_toArray]; omega))) [E148, c2, c3, c4, c5, c6]
            try omega
          · rcases ite_some h with ⟨c7, h⟩ | ⟨c7, h⟩
            · obtain rfl := Option.some.inj h
              simp (maxSteps := 2000000) (disch := (first | omega | (simp only [List.length_append, List.length_map, List.length_cons, List.length_nil, List.length_set, List.length_replicate, List.length_take, List.size_toArray]; omega))) [E148, c2, c3, c4, c5, c6, c7]
              try omega
            · simp (maxSteps := 2000000) (disch := (first | omega | (simp only [List.length_append, List.length_map, List.length_cons, List.length_nil, List.length_set, List.length_replicate, List.length_take, List.size_toArray]; omega))) [E148, c2, c3, c4, c5, c6, c7]
              refine AEnds.againS ((ih k1 (by omega)) _ _ _  h) ?_
              simp only [E148, firstR, mk_keep, keepT, List.find?, Nat.reduceBEq, Option.map_some, Option.getD_some]
              simp (maxSteps := 2000000) (disch := (first | omega | (simp only [List.length_append, List.length_map, List.length_cons, List.length_nil, List.length_set, List.length_replicate, List.length_take, List.size_toArray]; omega))) [E148, c2, c3, c4, c5, c6, c7]
              try omega
        · cases h
      · cases h
    · cases h
  · obtain rfl := Option.some.inj h
    simp (maxSteps := 2000000) (disch := (first | omega | (simp only [List.length_append, List.length_map, List.length_cons, List.length_nil, List.length_set, List.length_replicate, List.length_take, List.size_toArray]; omega))) [E148, c2]
    try omega
theorem n148_run (k : Nat) (l0 : List Int) (l1 : List Int) (r : (Int)) (h : nat_cmp.f k l0 l1 = some r) : AEnds E148 (finW Tryz.prog Tryz.f148.results) 0 [.code (Tryz.f148.body.getD .skip)] (startA Tryz.f148 [(rowI .u32 l0), (rowI .u32 l1)] [] []) (.int .i64 r) := by
  unfold nat_cmp.f at h
  simp only [Tryz.f148, Option.getD_some, startA]
  obtain ⟨t8, e9, h⟩ := Option.bind_eq_some_iff.1 h
  have p10 := pick_of (fun k r h => nat_trim.mono _  k r h) e9
  obtain ⟨t11, e12, h⟩ := Option.bind_eq_some_iff.1 h
  have p13 := pick_of (fun k r h => nat_trim.mono _  k r h) e12
  rcases ite_some h with ⟨c14, h⟩ | ⟨c14, h⟩
  · simp (maxSteps := 2000000) (disch := (first | omega | (simp only [List.length_append, List.length_map, List.length_cons, List.length_nil, List.length_set, List.length_replicate, List.length_take, List.size_toArray]; omega))) [E148, p10, p13, c14]
    refine AEnds.loopS ((n148_ls _ _) _ _ _  h) ?_
    simp only [E148, firstR, mk_keep, keepT, List.find?, Nat.reduceBEq, Option.map_some, Option.getD_some]
    simp (maxSteps := 2000000) (disch := (first | omega | (simp only [List.length_append, List.length_map, List.length_cons, List.length_nil, List.length_set, List.length_replicate, List.length_take, List.size_toArray]; omega))) [E148, p10, p13, c14]
    try omega
  · rcases ite_some h with ⟨c15, h⟩ | ⟨c15, h⟩
    · obtain rfl := Option.some.inj h
      simp (maxSteps := 2000000) (disch := (first | omega | (simp only [List.length_append, List.length_map, List.length_cons, List.length_nil, List.length_set, List.length_replicate, List.length_take, List.size_toArray]; omega))) [E148, p10, p13, c14, c15]
      try omega
    · obtain rfl := Option.some.inj h
      simp (maxSteps := 2000000) (disch := (first | omega | (simp only [List.length_append, List.length_map, List.length_cons, List.length_nil, List.length_set, List.length_replicate, List.length_take, List.size_toArray]; omega))) [E148, p10, p13, c14, c15]
      try omega
theorem fit148 : Fits Tryz.prog E148.ref E148.dep Tryz.f148 = true := by kernel_rfl
theorem good148 : GoodV 148 := by
  intro xs r h
  simp only [SV] at h
  unfold SV148 at h
  split at h
  · obtain ⟨a0, h0, h⟩ := Option.bind_eq_some_iff.1 h
    obtain ⟨a1, h1, h⟩ := Option.bind_eq_some_iff.1 h
    obtain ⟨q, hq, rfl⟩ := Option.map_eq_some_iff.1 h
    obtain ⟨k, hk⟩ := of_pick hq
    obtain rfl := unI_eq h0
    obtain rfl := unI_eq h1
    exact okW_ends (mkE_ok (all_cons good145 all_nil) (all_cons goodR145 all_nil)) mixed Tryz.func148 rfl fit148 (n148_run k _ _  _ hk)
  · cases h
theorem goodR148 : GoodR 148 := fun _ _ _ _ _ _ h => by simp [SR] at h
end Go.Proofs.YtofklpmlgfbmlaaGreat.ZRat
namespace Go.Proofs.YtofklpmlgfbmlaaGreat.ZRat
open Go.RowKit Go.Proofs.YtofklpmlgfbmlaaGreat.Wd
open Go Go.Proofs.YtofklpmlgfbmlaaGreat.Ab Go.Proofs
set_option linter.unusedSimpArgs false
set_option linter.unusedVariables false
set_option maxHeartbeats 4000000
set_option maxRecDepth 10000
noncomputable def E194 : Env := mkE [] [] [(4, [0, 1, 2, 7, 9, 10])] []
theorem n194_ls (r : (Int)) (k : Nat) : (∀ (x0 : List Int) (x1 : Int) (x2 : Int) (x7 : Int) (x9 : Int) (x10 : Int), nat_guess.l0 k x0 x1 x2 x7 x9 x10 = some r → AEnds E194 (finW Tryz.prog Tryz.f194.results) 0 (atLoop Tryz.f194 4) ⟨fr 58 [(0, (rowI .u32 x0)), (1, (.int .u64 x1)), (2, (.int .u64 x2)), (7, (.int .i64 x7)), (9, (.int .u64 x9)), (10, (.int .u64 x10))], [], []⟩ (.int .u64 r)) := by
  induction k using Nat.strongRecOn with
  | _ k ih =>
  intro x0 x1 x2 x7 x9 x10 h
  cases k with
  | zero => simp [nat_guess.l0] at h
  | succ k1 =>
  simp only [nat_guess.l0] at h
  simp only [Tryz.f194, atLoop, seek, firstR, reduceIte, Option.getD_some, Nat.reduceEqDiff]
  rcases ite_some h with ⟨c2, h⟩ | ⟨c2, h⟩
  · cases k1 with
    | zero => simp [nat_guess.j1] at h
    | succ k3 =>
    simp only [nat_guess.j1] at h
    rcases ite_some h with ⟨c4, h⟩ | ⟨c4, h⟩
    · rcases ite_some h with ⟨c5, h⟩ | ⟨c5, h⟩
      · obtain rfl := Option.some.inj h
        simp (maxSteps := 2000000) (disch := (first | omega | (simp only [List.length_append, List.length_map, List.length_cons, List.length_nil, List.length_set, List.length_replicate, List.length_take, List.size_toArray]; omega))) [E194, c2, c5]
        try omega
      · simp (maxSteps := 2000000) (disch := (first | omega | (simp only [List.length_append, List.length_map, List.length_cons, List.length_nil, List.length_set, List.length_replicate, List.length_take, List.size_toArray]; omega))) [E194, c2, c5]
        refine AEnds.againS ((ih k3 (by omega)) _ _ _ _ _ _  h) ?_
        simp only [E194, firstR, mk_keep, keepT, List.find?, Nat.reduceBEq, Option.map_some, Option.getD_some]
        simp (maxSteps := 2000000) (disch := (first | omega | (simp only [List.length_append, List.length_map, List.length_cons, List.length_nil, List.length_set, List.length_replicate, List.length_take, List.size_toArray]; omega))) [E194, c2, c5]
        try omega
    · simp at c4
  · rcases ite_some h with ⟨c6, h⟩ | ⟨c6, h⟩
    · rcases ite_some h with ⟨c7, h⟩ | ⟨c7, h⟩
      · cases k1 with
        | zero => simp [nat_guess.j1] at h
        | succ k8 =>
        simp only [nat_guess.j1] at h
        rcases ite_some h with ⟨c9, h⟩ | ⟨c9, h⟩
        · simp only [decide_eq_true_eq] at c9
          rcases ite_some h with ⟨c10, h⟩ | ⟨c10, h⟩
          · obtain rfl := Option.some.inj h
            simp (maxSteps := 2000000) (disch := (first | omega | (simp only [List.length_append, List.length_map, List.length_cons, List.length_nil, List.length_set, List.length_replicate, List.length_take, List.size_toArray]; omega))) [E194, c2, c6, c7, c9, c10]
            try omega
          · simp (maxSteps := 2000000) (disch := (first | omega | (simp only [List.length_append, List.length_map, List.length_cons, List.length_nil, List.length_set, List.length_replicate, List.length_take, List.size_toArray]; omega))) [E194, c2, c6, c7, c9, c10]
            refine AEnds.againS ((ih k8 (by omega)) _ _ _ _ _ _  h) ?_
            simp only [E194, firstR, mk_keep, keepT, List.find?, Nat.reduceBEq, Option.map_some, Option.getD_some]
            simp (maxSteps := 2000000) (disch := (first | omega | (simp only [List.length_append, List.length_map, List.length_cons, List.length_nil, List.length_set, List.length_replicate, List.length_take, List.size_toArray]; omega))) [E194, c2, c6, c7, c9, c10]
            try omega
        · simp only [decide_eq_true_eq] at c9
          obtain rfl := Option.some.inj h
          simp (maxSteps := 2000000) (disch := (first | omega | (simp only [List.length_append, List.length_map, List.length_cons, List.length_nil, List.length_set, List.length_replicate, List.length_take, List.size_toArray]; omega))) [E194, c2, c6, c7, c9]
          try omega
      · cases h
    · cases h
theorem n194_run (k : Nat) (l0 : List Int) (a1 : Int) (a2 : Int) (r : (Int)) (h : nat_guess.f k l0 a1 a2 = some r) : AEnds E194 (finW Tryz.prog Tryz.f194.results) 0 [.code (Tryz.f194.body.getD .skip)] (startA Tryz.f194 [(rowI .u32 l0), (.int .u64 a1), (.int .u64 a2)] [] []) (.int .u64 r) := by
  unfold nat_guess.f at h
  simp only [Tryz.f194, Option.getD_some, startA]
  rcases ite_some h with ⟨c11, h⟩ | ⟨c11, h⟩
  · rcases ite_some h with ⟨c12, h⟩ | ⟨c12, h⟩
    · rcases ite_some h with ⟨c13, h⟩ | ⟨c13, h⟩
      · rcases ite_some h with ⟨c14, h⟩ | ⟨c14, h⟩
        · rcases ite_some h with ⟨c15, h⟩ | ⟨c15, h⟩
          · cases h
          · simp (maxSteps := 2000000) (disch := (first | omega | (simp only [List.length_append, List.length_map, List.length_cons, List.length_nil, List.length_set, List.length_replicate, List.length_take, List.size_toArray]; omega))) [E194, c11, c12, c13, c14, c15]
            refine AEnds.loopS ((n194_ls _ _) _ _ _ _ _ _  h) ?_
            simp only [E194, firstR, mk_keep, keepT, List.find?, Nat.reduceBEq, Option.map_some, Option.getD_some]
            simp (maxSteps := 2000000) (disch := (first | omega | (simp only [List.length_append, List.length_map, List.length_cons, List.length_nil, List.length_set, List.length_replicate, List.length_take, List.size_toArray]; omega))) [E194, c11, c12, c13, c14, c15]
            try omega
        · cases h
      · cases h
    · cases h
  · cases h
theorem fit194 : Fits Tryz.prog E194.ref E194.dep Tryz.f194 = true := by kernel_rfl
theorem good194 : GoodV 194 := by
  intro xs r h
  simp only [SV] at h
  unfold SV194 at h
  split at h
  · obtain ⟨a0, h0, h⟩ := Option.bind_eq_some_iff.1 h
    obtain ⟨a1, h1, h⟩ := Option.bind_eq_some_iff.1 h
    obtain ⟨a2, h2, h⟩ := Option.bind_eq_some_iff.1 h
    obtain ⟨q, hq, rfl⟩ := Option.map_eq_some_iff.1 h
    obtain ⟨k, hk⟩ := of_pick hq
    obtain rfl := unI_eq h0
    obtain rfl := unN_eq h1
    obtain rfl := unN_eq h2
    exact okW_ends (mkE_ok all_nil all_nil) mixed Tryz.func194 rfl fit194 (n194_run k _ _ _  _ hk)
  · cases h
theorem goodR194 : GoodR 194 := fun _ _ _ _ _ _ h => by simp [SR] at h
end Go.Proofs.YtofklpmlgfbmlaaGreat.ZRat
namespace Go.Proofs.YtofklpmlgfbmlaaGreat.ZRat
open Go.RowKit Go.Proofs.YtofklpmlgfbmlaaGreat.Wd
open Go Go.Proofs.YtofklpmlgfbmlaaGreat.Ab Go.Proofs
set_option linter.unusedSimpArgs false
set_option linter.unusedVariables false
set_option maxHeartbeats 4000000
set_option maxRecDepth 10000
noncomputable def E181 : Env := mkE [] [] [] []
theorem n181_run (k : Nat) (a0 : Int) (r : (Int)) (h : bits_Len32.f  a0 = some r) : AEnds E181 (finW Tryz.prog Tryz.f181.results) 0 [.code (Tryz.f181.body.getD .skip)] (startA Tryz.f181 [(.int .u32 a0)] [] []) (.int .i64 r) := by
  unfold bits_Len32.f at h
  simp only [Tryz.f181, Option.getD_some, startA]
  rcases ite_some h with ⟨c1, h⟩ | ⟨c1, h⟩
  · rcases ite_some h with ⟨c2, h⟩ | ⟨c2, h⟩
    · rcases ite_some h with ⟨c3, h⟩ | ⟨c3, h⟩
      · rcases ite_some h with ⟨c4, h⟩ | ⟨c4, h⟩
        · obtain rfl := Option.some.inj h
          simp (maxSteps := 2000000) (disch := (first | omega | (simp only [List.length_append, List.length_map, List.length_cons, List.length_nil, List.length_set, List.length_replicate, List.length_take, List.size_toArray]; omega))) [E181, c1, c2, c3, c4]
          try omega
        · cases h
      · cases h
    · rcases ite_some h with ⟨c5, h⟩ | ⟨c5, h⟩
      · rcases ite_some h with ⟨c6, h⟩ | ⟨c6, h⟩
        · obtain rfl := Option.some.inj h
          simp (maxSteps := 2000000) (disch := (first | omega | (simp only [List.length_append, List.length_map, List.length_cons, List.length_nil, List.length_set, List.length_replicate, List.length_take, List.size_toArray]; omega))) [E181, c1, c2, c5, c6]
          try omega
        · cases h
      · cases h
  · rcases ite_some h with ⟨c7, h⟩ | ⟨c7, h⟩
    · rcases ite_some h with ⟨c8, h⟩ | ⟨c8, h⟩
      · rcases ite_some h with ⟨c9, h⟩ | ⟨c9, h⟩
        · obtain rfl := Option.some.inj h
          simp (maxSteps := 2000000) (disch := (first | omega | (simp only [List.length_append, List.length_map, List.length_cons, List.length_nil, List.length_set, List.length_replicate, List.length_take, List.size_toArray]; omega))) [E181, c1, c7, c8, c9]
          try omega
        · cases h
      · cases h
    · rcases ite_some h with ⟨c10, h⟩ | ⟨c10, h⟩
      · rcases ite_some h with ⟨c11, h⟩ | ⟨c11, h⟩
        · obtain rfl := Option.some.inj h
          simp (maxSteps := 2000000) (disch := (first | omega | (simp only [List.length_append, List.length_map, List.length_cons, List.length_nil, List.length_set, List.length_replicate, List.length_take, List.size_toArray]; omega))) [E181, c1, c7, c10, c11]
          try omega
        · cases h
      · cases h
theorem fit181 : Fits Tryz.prog E181.ref E181.dep Tryz.f181 = true := by kernel_rfl
theorem good181 : GoodV 181 := by
  intro xs r h
  simp only [SV] at h
  unfold SV181 at h
  split at h
  · obtain ⟨a0, h0, h⟩ := Option.bind_eq_some_iff.1 h
    obtain ⟨q, hq, rfl⟩ := Option.map_eq_some_iff.1 h
    obtain rfl := unN_eq h0
    exact okW_ends (mkE_ok all_nil all_nil) mixed Tryz.func181 rfl fit181 (n181_run 0 _  _ hq)
  · cases h
theorem goodR181 : GoodR 181 := fun _ _ _ _ _ _ h => by simp [SR] at h
end Go.Proofs.YtofklpmlgfbmlaaGreat.ZRat
namespace Go.Proofs.YtofklpmlgfbmlaaGreat.ZRat
open Go.RowKit Go.Proofs.YtofklpmlgfbmlaaGreat.Wd
open Go Go.Proofs.YtofklpmlgfbmlaaGreat.Ab Go.Proofs
set_option linter.unusedSimpArgs false
set_option linter.unusedVariables false
set_option maxHeartbeats 4000000
set_option maxRecDepth 10000
noncomputable def E192 : Env := mkE [] [181] [] []
theorem n192_run (k : Nat) (a0 : Int) (r : (Int)) (h : bits_LeadingZeros32.f  a0 = some r) : AEnds E192 (finW Tryz.prog Tryz.f192.results) 0 [.code (Tryz.f192.body.getD .skip)] (startA Tryz.f192 [(.int .u32 a0)] [] []) (.int .i64 r) := by
  unfold bits_LeadingZeros32.f at h
  simp only [Tryz.f192, Option.getD_some, startA]
  obtain ⟨t1, e2, h⟩ := Option.bind_eq_some_iff.1 h
  obtain rfl := Option.some.inj h
  simp (maxSteps := 2000000) (disch := (first | omega | (simp only [List.length_append, List.length_map, List.length_cons, List.length_nil, List.length_set, List.length_replicate, List.length_take, List.size_toArray]; omega))) [E192, e2]
  try omega
theorem fit192 : Fits Tryz.prog E192.ref E192.dep Tryz.f192 = true := by kernel_rfl
theorem good192 : GoodV 192 := by
  intro xs r h
  simp only [SV] at h
  unfold SV192 at h
  split at h
  · obtain ⟨a0, h0, h⟩ := Option.bind_eq_some_iff.1 h
    obtain ⟨q, hq, rfl⟩ := Option.map_eq_some_iff.1 h
    obtain rfl := unN_eq h0
    exact okW_ends (mkE_ok (all_cons good181 all_nil) (all_cons goodR181 all_nil)) mixed Tryz.func192 rfl fit192 (n192_run 0 _  _ hq)
  · cases h
theorem goodR192 : GoodR 192 := fun _ _ _ _ _ _ h => by simp [SR] at h
end Go.Proofs.YtofklpmlgfbmlaaGreat.ZRat
namespace Go.Proofs.YtofklpmlgfbmlaaGreat.ZRat
open Go.RowKit Go.Proofs.YtofklpmlgfbmlaaGreat.Wd
open Go Go.Proofs.YtofklpmlgfbmlaaGreat.Ab Go.Proofs
set_option linter.unusedSimpArgs false
set_option linter.unusedVariables false
set_option maxHeartbeats 4000000
set_option maxRecDepth 10000
noncomputable def E0 : Env := mkE [] [] [] []
theorem E0_ok : EnvOk E0 Tryz.prog := ⟨rfl, fun f xs r h => by simp [E0] at h, fun f xs h z r h' z' h => by simp [E0] at h, fun _ _ _ h => by simp [E0, mkE] at h⟩
theorem clone_fit : Fits Tryz.prog E0.ref E0.dep Tryz.f146 = true := by kernel_rfl
theorem clone_pos (l : List Int) (h0 : 0 < l.length) (h1 : l.length < 35184372088832) : OkR Tryz.prog 146 [rowI .u32 l] [] [] (.own 1 0 l.length 1) [.gone, .arr (l.map (.int .u32))] [false, false] := by
  refine okR_ends E0_ok mixed Tryz.func146 rfl clone_fit ?_
  simp only [Tryz.f146, startA]
  simp (maxSteps := 2000000) (disch := omega) [E0, nilQ, nilOp, h0]
theorem wpl_step {P : Program} {ops : Array Oper} {Q : Exit → Act → World → Prop} {a : Act} {w : World} {rest : List Oper} {o : Oper} (hw : Region.wanted o (yielded ops a.tmps) = true) (h : o.wp P a w (wpList P ops Q rest) Q) : wpList P ops Q (o :: rest) a w := by
  unfold wpList; rw [if_pos hw]; exact .inl h
theorem wpl_value {P : Program} {ops : Array Oper} {Q : Exit → Act → World → Prop} {a : Act} {w : World} {rest : List Oper} {o : Oper} {v : Value} (hw : Region.wanted o (yielded ops a.tmps) = true) (hr : (execOp a.eval o).run P w = .ok (.value v) w) (h : wpList P ops Q rest (a.put o.dst v) w) : wpList P ops Q (o :: rest) a w :=
  wpl_step hw (by unfold Oper.wp; rw [hr, Oper.upon_value]; exact h)
theorem clone_zero : OkR Tryz.prog 146 [.row 0 []] [] [] (.own 1 0 0 1) [.gone, .arr []] [false, false] := by
  refine ⟨(Fits.body Tryz.func146 clone_fit).1, fun K ρ S w args H ha => ?_⟩
  have R0 := start_rel H ha Tryz.f146
  refine calls_of_wp Tryz.func146 rfl ?_
  refine wp_seq ((wpIn_wide (n := 0)).1 (region_sound (ro := none) (s' := ⟨(startA Tryz.f146 [.row 0 []] [] []).tmps.set 2 .nil, [], []⟩) E0_ok mixed (fun h => by cases h) ?h0 R0 (fun ρ1 S1 a1 w1 R1 d1 X1 => ?_)))
  case h0 => simp [Tryz.f146, startA, runRegion, runL, stepA, E0]
  refine wp_seq (wp_seq (wp_region_list ?_))
  refine wpl_value rfl (v := a1.eval (.tmp 0)) rfl ?_
  have R2 := R1.put (v := .row 0 []) (Ext.refl _ _ _ _) R1.mem (by have := R1.look (.tmp 0); simpa [Tryz.f146, startA] using this) (some 3)
  obtain ⟨A, cap, hv, _, _⟩ := row_of (n := 0) (cs := []) (by have := R2.look (.tmp 3); simpa [Tryz.f146, startA] using this)
  refine wpl_value rfl (v := .bool A.isNone) ?h2 ?_
  case h2 =>
    have hz : (a1.put (some 3) (a1.eval (.tmp 0))).eval (.const (.slice none 0 0)) = .slice none 0 0 := rfl
    simp only [execOp, Sem.run_bind, hv, hz, run_eqGuard (.inr (.inr (.inr ⟨A, 0, cap, rfl⟩))), Result.andThen_ok, Lib.run_eql_slice_nil w1 30 121 A 0 cap 0 0 Tryz.underlying30, Sem.run_pure]
  have R3 := R2.put (v := .bool A.isNone) (u := .bool A.isNone) (Ext.refl _ _ _ _) R2.mem (by simp only [V3, V2, V1, P1]) (some 4)
  have d3 : ((a1.put (some 3) (a1.eval (.tmp 0))).put (some 4) (.bool A.isNone)).defers = [] := (put_dfr _ _ _).trans ((put_dfr _ _ _).trans d1.dfr)
  generalize (a1.put (some 3) (a1.eval (.tmp 0))).put (some 4) (.bool A.isNone) = a3 at R3 d3 ⊢
  refine wp_cond (t := A.isNone) (bool_of (by have := R3.look (.tmp 4); simpa [Tryz.f146, startA] using this)) ?_
  cases A with
  | none =>
    refine wp_seq ((wpIn_wide (n := 0)).1 (region_sound (ro := none) (s' := ⟨((((startA Tryz.f146 [.row 0 []] [] []).tmps.set 2 .nil).set 3 (.row 0 [])).set 4 (.bool true)).set 2 .nil, [], []⟩) E0_ok mixed (fun h => by cases h) ?h3 R3 (fun ρ4 S4 a4 w4 R4 d4 X4 => wp_ret ?_)))
    case h3 => simp [Tryz.f146, startA, runRegion, runL, stepA, E0]
    obtain ⟨u, g1, g2⟩ := results_of (P := Tryz.prog) R4 (fn := Tryz.f146) (vs := [.nil]) (by simp [Tryz.f146, startA])
    have hu := nil_of g2
    subst hu
    have X := X1.trans X4
    have hno : ∀ (i b n : Nat), (if i = 0 then Ab.Loc.gone else if i = 1 then .virt else .free) ≠ .at b n := by
      intro i b n h
      split at h
      · cases h
      · split at h <;> cases h
    have HH : Heap K (fun i => if i = 0 then .gone else if i = 1 then .virt else .free) S4 [.gone, .arr []] [false, false] w4 := by
      refine ⟨fun i => ?_, fun i j b n m h _ => (hno _ _ _ h).elim, fun i b n h => (hno _ _ _ h).elim, fun i b n h => (hno _ _ _ h).elim, rfl, R4.mem.sb, R4.mem.kb⟩
      match i with
      | 0 => exact rfl
      | 1 => exact .inl ⟨rfl, rfl⟩
      | n + 2 => exact rfl
    exact ⟨d4.dfr.trans d3, _, g1, _, (fun i => if i = 0 then .gone else if i = 1 then .virt else .free), S4, rfl, ⟨rfl, none, rfl⟩, HH,
      ⟨X.os, X.tape, X.output, X.size, X.kept, X.ss, X.new, X.same, fun id => .inl (H.free (Nat.zero_le _))⟩⟩
  | some x =>
    refine wp_skip ?_
    refine wp_seq ((wpIn_wide (n := 0)).1 (region_sound (ro := none) (s' := ⟨((((((startA Tryz.f146 [.row 0 []] [] []).tmps.set 2 .nil).set 3 (.row 0 [])).set 4 (.bool false)).set 5 (.own 0 0 0 1)).set 6 (.row 0 [])).set 7 (.own 1 0 0 1) |>.set 2 (.own 1 0 0 1), [.gone, .arr []], [false, false]⟩) E0_ok mixed (fun h => by cases h) ?h4 R3 (fun ρ4 S4 a4 w4 R4 d4 X4 => wp_ret ?_)))
    case h4 => simp [Tryz.f146, startA, runRegion, runL, stepA, E0]
    obtain ⟨u, g1, g2⟩ := results_of (P := Tryz.prog) R4 (fn := Tryz.f146) (vs := [.own 1 0 0 1]) (by simp [Tryz.f146, startA])
    exact ⟨d4.dfr.trans d3, _, g1, _, ρ4, S4, rfl, g2, R4.mem, X1.trans X4⟩
theorem clone_ok (l : List Int) (h1 : l.length < 35184372088832) : OkR Tryz.prog 146 [rowI .u32 l] [] [] (.own 1 0 l.length 1) [.gone, .arr (l.map (.int .u32))] [false, false] := by
  cases l with
  | nil => exact clone_zero
  | cons a l => exact clone_pos _ (by simp) h1
theorem goodR146 : GoodR 146 := by
  intro xs h z v h' z' hr
  simp only [SR] at hr
  unfold SR146 at hr
  split at hr
  · obtain ⟨l, hl, hr⟩ := Option.bind_eq_some_iff.1 hr
    obtain ⟨m, hm, e⟩ := Option.map_eq_some_iff.1 hr
    cases e
    rw [unI_eq hl]
    unfold api_Nat_uint32.f at hm
    split at hm
    · cases hm; exact clone_ok _ ‹_›
    · cases hm
  · cases hr
theorem good146 : GoodV 146 := by
  intro xs r hr
  simp only [SV] at hr
  unfold SV146 at hr
  split at hr
  · obtain ⟨l, hl, hr⟩ := Option.bind_eq_some_iff.1 hr
    obtain ⟨m, hm, rfl⟩ := Option.map_eq_some_iff.1 hr
    rw [unI_eq hl]
    unfold api_Nat_uint32.f at hm
    split at hm
    · cases hm
      exact (clone_ok _ ‹_›).val (fs := [1]) (by simp)
    · cases hm
  · cases hr
end Go.Proofs.YtofklpmlgfbmlaaGreat.ZRat
namespace Go.Proofs.YtofklpmlgfbmlaaGreat.ZRat
open Go.RowKit Go.Proofs.YtofklpmlgfbmlaaGreat.Wd
open Go Go.Proofs.YtofklpmlgfbmlaaGreat.Ab Go.Proofs
set_option linter.unusedSimpArgs false
set_option linter.unusedVariables false
set_option maxHeartbeats 4000000
set_option maxRecDepth 10000
noncomputable def E185 : Env := mkE [] [] [(3, [0, 1, 5, 6])] []
theorem n185_ls (tl : List Int) (r : (Int × List Int)) (k : Nat) : (∀ (x0 : List Int) (x1 : Int) (x5 : Int) (x6 : Int), nat_short.l0 k x0 x1 x5 x6 = some r → AEnds E185 (finR Tryz.prog Tryz.f185.results) 1 (atLoop Tryz.f185 3) ⟨fr 36 [(0, .own 0 0 x0.length 1), (1, (.int .u32 x1)), (5, (.int .u64 x5)), (6, (.int .i64 x6))], [.arr ((x0 ++ tl).map (.int .u32))], [false]⟩ (.int .u32 r.1, [.arr (r.2.map (.int .u32) ++ tl.map (.int .u32))], [false])) := by
  induction k using Nat.strongRecOn with
  | _ k ih =>
  intro x0 x1 x5 x6 h
  cases k with
  | zero => simp [nat_short.l0] at h
  | succ k1 =>
  simp only [nat_short.l0] at h
  simp only [Tryz.f185, atLoop, seek, firstR, reduceIte, Option.getD_some, Nat.reduceEqDiff]
  rcases ite_some h with ⟨c2, h⟩ | ⟨c2, h⟩
  · rcases ite_some h with ⟨c3, h⟩ | ⟨c3, h⟩
    · rcases ite_some h with ⟨c4, h⟩ | ⟨c4, h⟩
      · rcases ite_some h with ⟨c5, h⟩ | ⟨c5, h⟩
        · cases h
        · simp (maxSteps := 2000000) (disch := (first | omega | (simp only [List.length_append, List.length_map, List.length_cons, List.length_nil, List.length_set, List.length_replicate, List.length_take, List.size_toArray]; omega))) [E185, c2, c3, c4, c5]
          refine AEnds.againS ((ih k1 (by omega)) _ _ _ _  h) ?_
          simp only [E185, firstR, mk_keep, keepT, List.find?, Nat.reduceBEq, Option.map_some, Option.getD_some]
          simp (maxSteps := 2000000) (disch := (first | omega | (simp only [List.length_append, List.length_map, List.length_cons, List.length_nil, List.length_set, List.length_replicate, List.length_take, List.size_toArray]; omega))) [E185, c2, c3, c4, c5]
          try omega
      · cases h
    · cases h
  · obtain rfl := Option.some.inj h
    simp (maxSteps := 2000000) (disch := (first | omega | (simp only [List.length_append, List.length_map, List.length_cons, List.length_nil, List.length_set, List.length_replicate, List.length_take, List.size_toArray]; omega))) [E185, c2]
    try omega
theorem n185_run (tl : List Int) (k : Nat) (l0 : List Int) (a1 : Int) (r : (Int × List Int)) (h : nat_short.f k l0 a1 = some r) : AEnds E185 (finR Tryz.prog Tryz.f185.results) 1 [.code (Tryz.f185.body.getD .skip)] (startA Tryz.f185 [(.own 0 0 l0.length 1), (.int .u32 a1)] [.arr ((l0 ++ tl).map (.int .u32))] [false]) (.int .u32 r.1, [.arr (r.2.map (.int .u32) ++ tl.map (.int .u32))], [false]) := by
  unfold nat_short.f at h
  simp only [Tryz.f185, Option.getD_some, startA]
  simp (maxSteps := 2000000) (disch := (first | omega | (simp only [List.length_append, List.length_map, List.length_cons, List.length_nil, List.length_set, List.length_replicate, List.length_take, List.size_toArray]; omega))) [E185]
  refine AEnds.loopS ((n185_ls tl _ _) _ _ _ _  h) ?_
  simp only [E185, firstR, mk_keep, keepT, List.find?, Nat.reduceBEq, Option.map_some, Option.getD_some]
  simp (maxSteps := 2000000) (disch := (first | omega | (simp only [List.length_append, List.length_map, List.length_cons, List.length_nil, List.length_set, List.length_replicate, List.length_take, List.size_toArray]; omega))) [E185]
  try omega
theorem goodR185 : GoodR 185 := by
  intro xs h z v h' z' hr
  simp only [SR] at hr
  unfold SR185 at hr
  split at hr
  · rename_i n b cs
    obtain ⟨l, hl, hr⟩ := Option.bind_eq_some_iff.1 hr
    split at hr
    · rename_i hn
      obtain ⟨q, hq, e⟩ := Option.map_eq_some_iff.1 hr
      obtain ⟨k, hk⟩ := of_pick hq
      have := n185_run (l.drop n) k (l.take n) b q hk
      rw [List.take_append_drop, List.length_take, Nat.min_eq_left hn, ← unC_eq hl, e] at this
      exact okR_ends (mkE_ok all_nil all_nil) mixed Tryz.func185 rfl (by kernel_rfl : Fits Tryz.prog E185.ref E185.dep Tryz.f185 = true) this
    · cases hr
  · cases hr
theorem good185 : GoodV 185 := fun _ _ h => by simp [SV] at h
end Go.Proofs.YtofklpmlgfbmlaaGreat.ZRat
namespace Go.Proofs.YtofklpmlgfbmlaaGreat.ZRat
open Go.RowKit Go.Proofs.YtofklpmlgfbmlaaGreat.Wd
open Go Go.Proofs.YtofklpmlgfbmlaaGreat.Ab Go.Proofs
set_option linter.unusedSimpArgs false
set_option linter.unusedVariables false
set_option maxHeartbeats 4000000
set_option maxRecDepth 10000
noncomputable def E193 : Env := mkE [] [] [(4, [1, 5, 6, 13, 14, 15])] []
theorem n193_ls (r : (List Int)) (k : Nat) : (∀ (x1 : Int) (x5 : List Int) (x6 : Int) (x13 : List Int) (x14 : Int) (x15 : Int), nat_shift.l0 k x1 x5 x6 x13 x14 x15 = some r → AEnds E193 (finR Tryz.prog Tryz.f193.results) 0 (atLoop Tryz.f193 4) ⟨fr 38 [(1, (.int .i64 x1)), (5, .own 0 0 x5.length 1), (6, (.int .u64 x6)), (13, (rowI .u32 x13)), (14, (.int .i64 x14)), (15, (.int .i64 x15))], [.arr ((x5).map (.int .u32))], [false]⟩ (.own 2 0 r.length 1, [.gone, .arr [.int .u32 (r.getLast?.getD 0)], .arr (r.map (.int .u32))], [false, false, false])) := by
  induction k using Nat.strongRecOn with
  | _ k ih =>
  intro x1 x5 x6 x13 x14 x15 h
  cases k with
  | zero => simp [nat_shift.l0] at h
  | succ k1 =>
  simp only [nat_shift.l0] at h
  simp only [Tryz.f193, atLoop, seek, firstR, reduceIte, Option.getD_some, Nat.reduceEqDiff]
  rcases ite_some h with ⟨c2, h⟩ | ⟨c2, h⟩
  · rcases ite_some h with ⟨c3, h⟩ | ⟨c3, h⟩
    · rcases ite_some h with ⟨c4, h⟩ | ⟨c4, h⟩
      · rcases ite_some h with ⟨c5, h⟩ | ⟨c5, h⟩
        · rcases ite_some h with ⟨c6, h⟩ | ⟨c6, h⟩
          · simp (maxSteps := 2000000) (disch := (first | omega | (simp only [List.length_append, List.length_map, List.length_cons, List.length_nil, List.length_set, List.length_replicate, List.length_take, List.size_toArray]; omega))) [E193, c2, c3, c4, c5, c6]
            refine AEnds.againS ((ih k1 (by omega)) _ _ _ _ _ _  h) ?_
            simp only [E193, firstR, mk_keep, keepT, List.find?, Nat.reduceBEq, Option.map_some, Option.getD_some]
            simp (maxSteps := 2000000) (disch := (first | omega | (simp only [List.length_append, List.length_map, List.length_cons, List.length_nil, List.length_set, List.length_replicate, List.length_take, List.size_toArray]; omega))) [E193, c2, c3, c4, c5, c6]
            try omega
          · cases h
        · cases h
      · cases h
    · cases h
  · rcases ite_some h with ⟨c7, h⟩ | ⟨c7, h⟩
    · obtain rfl := Option.some.inj h
      simp (maxSteps := 2000000) (disch := (first | omega | (simp only [List.length_append, List.length_map, List.length_cons, List.length_nil, List.length_set, List.length_replicate, List.length_take, List.size_toArray]; omega))) [E193, c2, c7]
      try omega
    · cases h
theorem n193_run (k : Nat) (l0 : List Int) (a1 : Int) (r : (List Int)) (h : nat_shift.f k l0 a1 = some r) : AEnds E193 (finR Tryz.prog Tryz.f193.results) 0 [.code (Tryz.f193.body.getD .skip)] (startA Tryz.f193 [(rowI .u32 l0), (.int .i64 a1)] [] []) (.own 2 0 r.length 1, [.gone, .arr [.int .u32 (r.getLast?.getD 0)], .arr (r.map (.int .u32))], [false, false, false]) := by
  unfold nat_shift.f at h
  simp only [Tryz.f193, Option.getD_some, startA]
  rcases ite_some h with ⟨c8, h⟩ | ⟨c8, h⟩
  · rcases ite_some h with ⟨c9, h⟩ | ⟨c9, h⟩
    · simp (maxSteps := 2000000) (disch := (first | omega | (simp only [List.length_append, List.length_map, List.length_cons, List.length_nil, List.length_set, List.length_replicate, List.length_take, List.size_toArray]; omega))) [E193, c8, c9]
      refine AEnds.loopS ((n193_ls _ _) _ _ _ _ _ _  h) ?_
      simp only [E193, firstR, mk_keep, keepT, List.find?, Nat.reduceBEq, Option.map_some, Option.getD_some]
      simp (maxSteps := 2000000) (disch := (first | omega | (simp only [List.length_append, List.length_map, List.length_cons, List.length_nil, List.length_set, List.length_replicate, List.length_take, List.size_toArray]; omega))) [E193, c8, c9]
      try omega
    · cases h
  · cases h
theorem goodR193 : GoodR 193 := by
  intro xs h z v h' z' hr
  simp only [SR] at hr
  unfold SR193 at hr
  split at hr
  · obtain ⟨l, hl, hr⟩ := Option.bind_eq_some_iff.1 hr
    obtain ⟨q, hq, e⟩ := Option.map_eq_some_iff.1 hr
    obtain ⟨k, hk⟩ := of_pick hq
    obtain rfl := unI_eq hl
    have := n193_run k _ _ q hk
    rw [e] at this
    exact okR_ends (mkE_ok all_nil all_nil) mixed Tryz.func193 rfl (by kernel_rfl : Fits Tryz.prog E193.ref E193.dep Tryz.f193 = true) this
  · cases hr
theorem good193 : GoodV 193 := fun _ _ h => by simp [SV] at h
end Go.Proofs.YtofklpmlgfbmlaaGreat.ZRat
namespace Go.Proofs.YtofklpmlgfbmlaaGreat.ZRat
open Go.RowKit Go.Proofs.YtofklpmlgfbmlaaGreat.Wd
open Go Go.Proofs.YtofklpmlgfbmlaaGreat.Ab Go.Proofs
set_option linter.unusedSimpArgs false
set_option linter.unusedVariables false
set_option maxHeartbeats 4000000
set_option maxRecDepth 10000
noncomputable def E195 : Env := mkE [] [] [(3, [0, 1, 2, 7, 8, 12, 13])] []
theorem n195_ls (A : List Int) (C : List Int) (tl : List Int) (r : (Bool × List Int)) (k : Nat) : (∀ (x0 : List Int) (x1 : List Int) (x2 : Int) (x7 : Int) (x8 : Int) (x12 : Int) (x13 : Int), nat_off.l0 k x0 x1 x2 x7 x8 x12 x13 = some r → AEnds E195 (finR Tryz.prog Tryz.f195.results) 2 (atLoop Tryz.f195 3) ⟨fr 52 [(0, .own 0 A.length x0.length 1), (1, .own 1 0 x1.length 1), (2, (.int .u64 x2)), (7, (.int .u64 x7)), (8, (.int .u64 x8)), (12, (.int .i64 x12)), (13, (.int .i64 x13))], [.arr ((A ++ x0 ++ C).map (.int .u32)), .arr ((x1 ++ tl).map (.int .u32))], [false, false]⟩ (.bool r.1, [.arr (A.map (.int .u32) ++ (r.2.map (.int .u32) ++ C.map (.int .u32))), .arr (x1.map (.int .u32) ++ tl.map (.int .u32))], [false, false])) := by
  induction k using Nat.strongRecOn with
  | _ k ih =>
  intro x0 x1 x2 x7 x8 x12 x13 h
  cases k with
  | zero => simp [nat_off.l0] at h
  | succ k1 =>
  simp only [nat_off.l0] at h
  simp only [Tryz.f195, atLoop, seek, firstR, reduceIte, Option.getD_some, Nat.reduceEqDiff]
  rcases ite_some h with ⟨c2, h⟩ | ⟨c2, h⟩
  · rcases ite_some h with ⟨c3, h⟩ | ⟨c3, h⟩
    · rcases ite_some h with ⟨c4, h⟩ | ⟨c4, h⟩
      · rcases ite_some h with ⟨c5, h⟩ | ⟨c5, h⟩
        · simp (maxSteps := 2000000) (disch := (first | omega | (simp only [List.length_append, List.length_map, List.length_cons, List.length_nil, List.length_set, List.length_replicate, List.length_take, List.size_toArray]; omega))) [E195, c2, c3, c4, c5]
          refine AEnds.againS ((ih k1 (by omega)) _ _ _ _ _ _ _  h) ?_
          simp only [E195, firstR, mk_keep, keepT, List.find?, Nat.reduceBEq, Option.map_some, Option.getD_some]
          simp (maxSteps := 2000000) (disch := (first | omega | (simp only [List.length_append, List.length_map, List.length_cons, List.length_nil, List.length_set, List.length_replicate, List.length_take, List.size_toArray]; omega))) [E195, c2, c3, c4, c5]
          try omega
        · cases h
      · cases h
    · rcases ite_some h with ⟨c6, h⟩ | ⟨c6, h⟩
      · rcases ite_some h with ⟨c7, h⟩ | ⟨c7, h⟩
        · simp (maxSteps := 2000000) (disch := (first | omega | (simp only [List.length_append, List.length_map, List.length_cons, List.length_nil, List.length_set, List.length_replicate, List.length_take, List.size_toArray]; omega))) [E195, c2, c3, c6, c7]
          refine AEnds.againS ((ih k1 (by omega)) _ _ _ _ _ _ _  h) ?_
          simp only [E195, firstR, mk_keep, keepT, List.find?, Nat.reduceBEq, Option.map_some, Option.getD_some]
          simp (maxSteps := 2000000) (disch := (first | omega | (simp only [List.length_append, List.length_map, List.length_cons, List.length_nil, List.length_set, List.length_replicate, List.length_take, List.size_toArray]; omega))) [E195, c2, c3, c6, c7]
          try omega
        · cases h
      · cases h
  · obtain rfl := Option.some.inj h
    simp (maxSteps := 2000000) (disch := (first | omega | (simp only [List.length_append, List.length_map, List.length_cons, List.length_nil, List.length_set, List.length_replicate, List.length_take, List.size_toArray]; omega))) [E195, c2]
    try omega
theorem n195_run (A : List Int) (C : List Int) (tl : List Int) (k : Nat) (l0 : List Int) (l1 : List Int) (a2 : Int) (r : (Bool × List Int)) (h : nat_off.f k l0 l1 a2 = some r) : AEnds E195 (finR Tryz.prog Tryz.f195.results) 2 [.code (Tryz.f195.body.getD .skip)] (startA Tryz.f195 [(.own 0 A.length l0.length 1), (.own 1 0 l1.length 1), (.int .u64 a2)] [.arr ((A ++ l0 ++ C).map (.int .u32)), .arr ((l1 ++ tl).map (.int .u32))] [false, false]) (.bool r.1, [.arr (A.map (.int .u32) ++ (r.2.map (.int .u32) ++ C.map (.int .u32))), .arr (l1.map (.int .u32) ++ tl.map (.int .u32))], [false, false]) := by
  unfold nat_off.f at h
  simp only [Tryz.f195, Option.getD_some, startA]
  simp (maxSteps := 2000000) (disch := (first | omega | (simp only [List.length_append, List.length_map, List.length_cons, List.length_nil, List.length_set, List.length_replicate, List.length_take, List.size_toArray]; omega))) [E195]
  refine AEnds.loopS ((n195_ls A C tl _ _) _ _ _ _ _ _ _  h) ?_
  simp only [E195, firstR, mk_keep, keepT, List.find?, Nat.reduceBEq, Option.map_some, Option.getD_some]
  simp (maxSteps := 2000000) (disch := (first | omega | (simp only [List.length_append, List.length_map, List.length_cons, List.length_nil, List.length_set, List.length_replicate, List.length_take, List.size_toArray]; omega))) [E195]
  try omega
theorem win3off (u : List Int) (o n : Nat) : u.take o ++ (u.drop o).take n ++ u.drop (o + n) = u := by
  rw [List.append_assoc, ← List.drop_drop, List.take_append_drop, List.take_append_drop]
theorem goodR195 : GoodR 195 := by
  intro xs h z v h' z' hr
  simp only [SR] at hr
  unfold SR195 at hr
  split at hr
  · rename_i o n m q cs ds
    obtain ⟨u, hu, hr⟩ := Option.bind_eq_some_iff.1 hr
    obtain ⟨x, hx, hr⟩ := Option.bind_eq_some_iff.1 hr
    split at hr
    · rename_i hn
      obtain ⟨p, hp, e⟩ := Option.map_eq_some_iff.1 hr
      obtain ⟨k, hk⟩ := of_pick hp
      have := n195_run (u.take o) (u.drop (o + n)) (x.drop m) k ((u.drop o).take n) (x.take m) q p hk
      rw [← List.map_append (l₁ := x.take m), List.take_append_drop, win3off u o n, List.length_take, Nat.min_eq_left (by omega), List.length_take, List.length_drop, Nat.min_eq_left (by omega), List.length_take, Nat.min_eq_left (by omega), ← unC_eq hu, ← unC_eq hx, e] at this
      exact okR_ends (mkE_ok all_nil all_nil) mixed Tryz.func195 rfl (by kernel_rfl : Fits Tryz.prog E195.ref E195.dep Tryz.f195 = true) this
    · cases hr
  · cases hr
theorem good195 : GoodV 195 := fun _ _ h => by simp [SV] at h
end Go.Proofs.YtofklpmlgfbmlaaGreat.ZRat
namespace Go.Proofs.YtofklpmlgfbmlaaGreat.ZRat
open Go.RowKit Go.Proofs.YtofklpmlgfbmlaaGreat.Wd
open Go Go.Proofs.YtofklpmlgfbmlaaGreat.Ab Go.Proofs
set_option linter.unusedSimpArgs false
set_option linter.unusedVariables false
set_option maxHeartbeats 4000000
set_option maxRecDepth 10000
noncomputable def E196 : Env := mkE [] [] [(2, [0, 1, 4, 7, 8])] []
theorem n196_ls (A : List Int) (C : List Int) (tl : List Int) (r : (List Int)) (k : Nat) : (∀ (x0 : List Int) (x1 : List Int) (x4 : Int) (x7 : Int) (x8 : Int), nat_back.l0 k x0 x1 x4 x7 x8 = some r → AEnds E196 (finR Tryz.prog Tryz.f196.results) 2 (atLoop Tryz.f196 2) ⟨fr 37 [(0, .own 0 A.length x0.length 1), (1, .own 1 0 x1.length 1), (4, (.int .u64 x4)), (7, (.int .i64 x7)), (8, (.int .i64 x8))], [.arr ((A ++ x0 ++ C).map (.int .u32)), .arr ((x1 ++ tl).map (.int .u32))], [false, false]⟩ (.tup [], [.arr (A.map (.int .u32) ++ (r.map (.int .u32) ++ C.map (.int .u32))), .arr (x1.map (.int .u32) ++ tl.map (.int .u32))], [false, false])) := by
  induction k using Nat.strongRecOn with
  | _ k ih =>
  intro x0 x1 x4 x7 x8 h
  cases k with
  | zero => simp [nat_back.l0] at h
  | succ k1 =>
  simp only [nat_back.l0] at h
  simp only [Tryz.f196, atLoop, seek, firstR, reduceIte, Option.getD_some, Nat.reduceEqDiff]
  rcases ite_some h with ⟨c2, h⟩ | ⟨c2, h⟩
  · rcases ite_some h with ⟨c3, h⟩ | ⟨c3, h⟩
    · rcases ite_some h with ⟨c4, h⟩ | ⟨c4, h⟩
      · rcases ite_some h with ⟨c5, h⟩ | ⟨c5, h⟩
        · simp (maxSteps := 2000000) (disch := (first | omega | (simp only [List.length_append, List.length_map, List.length_cons, List.length_nil, List.length_set, List.length_replicate, List.length_take, List.size_toArray]; omega))) [E196, c2, c3, c4, c5]
          refine AEnds.againS ((ih k1 (by omega)) _ _ _ _ _  h) ?_
          simp only [E196, firstR, mk_keep, keepT, List.find?, Nat.reduceBEq, Option.map_some, Option.getD_some]
          simp (maxSteps := 2000000) (disch := (first | omega | (simp only [List.length_append, List.length_map, List.length_cons, List.length_nil, List.length_set, List.length_replicate, List.length_take, List.size_toArray]; omega))) [E196, c2, c3, c4, c5]
          try omega
        · simp (maxSteps := 2000000) (disch := (first | omega | (simp only [List.length_append, List.length_map, List.length_cons, List.length_nil, List.length_set, List.length_replicate, List.length_take, List.size_toArray]; omega))) [E196, c2, c3, c4, c5]
          refine AEnds.againS ((ih k1 (by omega)) _ _ _ _ _  h) ?_
          simp only [E196, firstR, mk_keep, keepT, List.find?, Nat.reduceBEq, Option.map_some, Option.getD_some]
          simp (maxSteps := 2000000) (disch := (first | omega | (simp only [List.length_append, List.length_map, List.length_cons, List.length_nil, List.length_set, List.length_replicate, List.length_take, List.size_toArray]; omega))) [E196, c2, c3, c4, c5]
          try omega
      · cases h
    · cases h
  · obtain rfl := Option.some.inj h
    simp (maxSteps := 2000000) (disch := (first | omega | (simp only [List.length_append, List.length_map, List.length_cons, List.length_nil, List.length_set, List.length_replicate, List.length_take, List.size_toArray]; omega))) [E196, c2]
    try omega
theorem n196_run (A : List Int) (C : List Int) (tl : List Int) (k : Nat) (l0 : List Int) (l1 : List Int) (r : (List Int)) (h : nat_back.f k l0 l1 = some r) : AEnds E196 (finR Tryz.prog Tryz.f196.results) 2 [.code (Tryz.f196.body.getD .skip)] (startA Tryz.f196 [(.own 0 A.length l0.length 1), (.own 1 0 l1.length 1)] [.arr ((A ++ l0 ++ C).map (.int .u32)), .arr ((l1 ++ tl).map (.int .u32))] [false, false]) (.tup [], [.arr (A.map (.int .u32) ++ (r.map (.int .u32) ++ C.map (.int .u32))), .arr (l1.map (.int .u32) ++ tl.map (.int .u32))], [false, false]) := by
  unfold nat_back.f at h
  simp only [Tryz.f196, Option.getD_some, startA]
  simp (maxSteps := 2000000) (disch := (first | omega | (simp only [List.length_append, List.length_map, List.length_cons, List.length_nil, List.length_set, List.length_replicate, List.length_take, List.size_toArray]; omega))) [E196]
  refine AEnds.loopS ((n196_ls A C tl _ _) _ _ _ _ _  h) ?_
  simp only [E196, firstR, mk_keep, keepT, List.find?, Nat.reduceBEq, Option.map_some, Option.getD_some]
  simp (maxSteps := 2000000) (disch := (first | omega | (simp only [List.length_append, List.length_map, List.length_cons, List.length_nil, List.length_set, List.length_replicate, List.length_take, List.size_toArray]; omega))) [E196]
  try omega
theorem win3back (u : List Int) (o n : Nat) : u.take o ++ (u.drop o).take n ++ u.drop (o + n) = u := by
  rw [List.append_assoc, ← List.drop_drop, List.take_append_drop, List.take_append_drop]
theorem goodR196 : GoodR 196 := by
  intro xs h z v h' z' hr
  simp only [SR] at hr
  unfold SR196 at hr
  split at hr
  · rename_i o n m cs ds
    obtain ⟨u, hu, hr⟩ := Option.bind_eq_some_iff.1 hr
    obtain ⟨x, hx, hr⟩ := Option.bind_eq_some_iff.1 hr
    split at hr
    · rename_i hn
      obtain ⟨p, hp, e⟩ := Option.map_eq_some_iff.1 hr
      obtain ⟨k, hk⟩ := of_pick hp
      have := n196_run (u.take o) (u.drop (o + n)) (x.drop m) k ((u.drop o).take n) (x.take m) p hk
      rw [← List.map_append (l₁ := x.take m), List.take_append_drop, win3back u o n, List.length_take, Nat.min_eq_left (by omega), List.length_take, List.length_drop, Nat.min_eq_left (by omega), List.length_take, Nat.min_eq_left (by omega), ← unC_eq hu, ← unC_eq hx, e] at this
      exact okR_ends (mkE_ok all_nil all_nil) mixed Tryz.func196 rfl (by kernel_rfl : Fits Tryz.prog E196.ref E196.dep Tryz.f196 = true) this
    · cases hr
  · cases hr
theorem good196 : GoodV 196 := fun _ _ h => by simp [SV] at h
end Go.Proofs.YtofklpmlgfbmlaaGreat.ZRat
namespace Go.Proofs.YtofklpmlgfbmlaaGreat.ZRat
open Go.RowKit Go.Proofs.YtofklpmlgfbmlaaGreat.Wd
open Go Go.Proofs.YtofklpmlgfbmlaaGreat.Ab Go.Proofs
set_option linter.unusedSimpArgs false
set_option linter.unusedVariables false
set_option maxHeartbeats 4000000
set_option maxRecDepth 10000
noncomputable def E92 : Env := mkE [] [145] [(3, [1, 5, 17, 18, 19]), (7, [1, 5, 6, 7, 8, 17, 18, 19, 24, 25, 26])] []
theorem n92_ls (r : (List Int)) (k : Nat) : (∀ (x1 : List Int) (x5 : List Int) (x17 : List Int) (x18 : Int) (x19 : Int), nat_Mul.l0 k x1 x5 x17 x18 x19 = some r → AEnds E92 (finW Tryz.prog Tryz.f92.results) 0 (atLoop Tryz.f92 3) ⟨fr 67 [(1, (rowI .u32 x1)), (5, .own 0 0 x5.length 1), (17, (rowI .u32 x17)), (18, (.int .i64 x18)), (19, (.int .i64 x19))], [.arr ((x5).map (.int .u32))], [false]⟩ (rowI .u32 r)) ∧ (∀ (x1 : List Int) (x5 : List Int) (x6 : Int) (x7 : Int) (x8 : Int) (x17 : List Int) (x18 : Int) (x19 : Int) (x24 : List Int) (x25 : Int) (x26 : Int), nat_Mul.l1 k x1 x5 x6 x7 x8 x17 x18 x19 x24 x25 x26 = some r → AEnds E92 (finW Tryz.prog Tryz.f92.results) 0 (atLoop Tryz.f92 7) ⟨fr 67 [(1, (rowI .u32 x1)), (5, .own 0 0 x5.length 1), (6, (.int .i64 x6)), (7, (.int .u32 x7)), (8, (.int .u64 x8)), (17, (rowI .u32 x17)), (18, (.int .i64 x18)), (19, (.int .i64 x19)), (24, (rowI .u32 x24)), (25, (.int .i64 x25)), (26, (.int .i64 x26))], [.arr ((x5).map (.int .u32))], [false]⟩ (rowI .u32 r)) := by
  induction k using Nat.strongRecOn with
  | _ k ih =>
  refine ⟨?_, ?_⟩
  · intro x1 x5 x17 x18 x19 h
    cases k with
    | zero => simp [nat_Mul.l0] at h
    | succ k1 =>
    simp only [nat_Mul.l0] at h
    simp only [Tryz.f92, atLoop, seek, firstR, reduceIte, Option.getD_some, Nat.reduceEqDiff]
    rcases ite_some h with ⟨c2, h⟩ | ⟨c2, h⟩
    · rcases ite_some h with ⟨c3, h⟩ | ⟨c3, h⟩
      · rcases ite_some h with ⟨c4, h⟩ | ⟨c4, h⟩
        · simp (maxSteps := 2000000) (disch := (first | omega | (simp only [List.length_append, List.length_map, List.length_cons, List.length_nil, List.length_set, List.length_replicate, List.length_take, List.size_toArray]; omega))) [E92, c2, c3, c4]
          refine AEnds.loopS ((ih k1 (by omega)).2 _ _ _ _ _ _ _ _ _ _ _  h) ?_
          simp only [E92, firstR, mk_keep, keepT, List.find?, Nat.reduceBEq, Option.map_some, Option.getD_some]
          simp (maxSteps := 2000000) (disch := (first | omega | (simp only [List.length_append, List.length_map, List.length_cons, List.length_nil, List.length_set, List.length_replicate, List.length_take, List.size_toArray]; omega))) [E92, c2, c3, c4]
          try omega
        · cases h
      · cases h
    · obtain ⟨t5, e6, h⟩ := Option.bind_eq_some_iff.1 h
      have p7 := pick_of (fun k r h => nat_trim.mono _  k r h) e6
      obtain rfl := Option.some.inj h
      simp (maxSteps := 2000000) (disch := (first | omega | (simp only [List.length_append, List.length_map, List.length_cons, List.length_nil, List.length_set, List.length_replicate, List.length_take, List.size_toArray]; omega))) [E92, c2, p7]
      try omega
  · intro x1 x5 x6 x7 x8 x17 x18 x19 x24 x25 x26 h
    cases k with
    | zero => simp [nat_Mul.l1] at h
    | succ k8 =>
    simp only [nat_Mul.l1] at h
    simp only [Tryz.f92, atLoop, seek, firstR, reduceIte, Option.getD_some, Nat.reduceEqDiff]
    rcases ite_some h with ⟨c9, h⟩ | ⟨c9, h⟩
    · rcases ite_some h with ⟨c10, h⟩ | ⟨c10, h⟩
      · rcases ite_some h with ⟨c11, h⟩ | ⟨c11, h⟩
        · rcases ite_some h with ⟨c12, h⟩ | ⟨c12, h⟩
          · rcases ite_some h with ⟨c13, h⟩ | ⟨c13, h⟩
            · simp (maxSteps := 2000000) (disch := (first | omega | (simp only [List.length_append, List.length_map, List.length_cons, List.length_nil, List.length_set, List.length_replicate, List.length_take, List.size_toArray]; omega))) [E92, c9, c10, c11, c12, c13]
              refine AEnds.againS ((ih k8 (by omega)).2 _ _ _ _ _ _ _ _ _ _ _  h) ?_
              simp only [E92, firstR, mk_keep, keepT, List.find?, Nat.reduceBEq, Option.map_some, Option.getD_some]
              simp (maxSteps := 2000000) (disch := (first | omega | (simp only [List.length_append, List.length_map, List.length_cons, List.length_nil, List.length_set, List.length_replicate, List.length_take, List.size_toArray]; omega))) [E92, c9, c10, c11, c12, c13]
              try omega
            · cases h
          · cases h
        · cases h
      · cases h
    · rcases ite_some h with ⟨c14, h⟩ | ⟨c14, h⟩
      · rcases ite_some h with ⟨c15, h⟩ | ⟨c15, h⟩
        · simp (maxSteps := 2000000) (disch := (first | omega | (simp only [List.length_append, List.length_map, List.length_cons, List.length_nil, List.length_set, List.length_replicate, List.length_take, List.size_toArray]; omega))) [E92, c9, c14, c15]
          refine AEnds.againS ((ih k8 (by omega)).1 _ _ _ _ _  h) ?_
          simp only [E92, firstR, mk_keep, keepT, List.find?, Nat.reduceBEq, Option.map_some, Option.getD_some]
          simp (maxSteps := 2000000) (disch := (first | omega | (simp only [List.length_append, List.length_map, List.length_cons, List.length_nil, List.length_set, List.length_replicate, List.length_take, List.size_toArray]; omega))) [E92, c9, c14, c15]
          try omega
        · cases h
      · cases h
theorem n92_run (k : Nat) (l0 : List Int) (l1 : List Int) (r : (List Int)) (h : nat_Mul.f k l0 l1 = some r) : AEnds E92 (finW Tryz.prog Tryz.f92.results) 0 [.code (Tryz.f92.body.getD .skip)] (startA Tryz.f92 [(rowI .u32 l0), (rowI .u32 l1)] [] []) (rowI .u32 r) := by
  unfold nat_Mul.f at h
  simp only [Tryz.f92, Option.getD_some, startA]
  rcases ite_some h with ⟨c16, h⟩ | ⟨c16, h⟩
  · rcases ite_some h with ⟨c17, h⟩ | ⟨c17, h⟩
    · simp (maxSteps := 2000000) (disch := (first | omega | (simp only [List.length_append, List.length_map, List.length_cons, List.length_nil, List.length_set, List.length_replicate, List.length_take, List.size_toArray]; omega))) [E92, c16, c17]
      refine AEnds.loopS ((n92_ls _ _).1 _ _ _ _ _  h) ?_
      simp only [E92, firstR, mk_keep, keepT, List.find?, Nat.reduceBEq, Option.map_some, Option.getD_some]
      simp (maxSteps := 2000000) (disch := (first | omega | (simp only [List.length_append, List.length_map, List.length_cons, List.length_nil, List.length_set, List.length_replicate, List.length_take, List.size_toArray]; omega))) [E92, c16, c17]
      try omega
    · cases h
  · cases h
theorem fit92 : Fits Tryz.prog E92.ref E92.dep Tryz.f92 = true := by kernel_rfl
theorem good92 : GoodV 92 := by
  intro xs r h
  simp only [SV] at h
  unfold SV92 at h
  split at h
  · obtain ⟨a0, h0, h⟩ := Option.bind_eq_some_iff.1 h
    obtain ⟨a1, h1, h⟩ := Option.bind_eq_some_iff.1 h
    obtain ⟨q, hq, rfl⟩ := Option.map_eq_some_iff.1 h
    obtain ⟨k, hk⟩ := of_pick hq
    obtain rfl := unI_eq h0
    obtain rfl := unI_eq h1
    exact okW_ends (mkE_ok (all_cons good145 all_nil) (all_cons goodR145 all_nil)) mixed Tryz.func92 rfl fit92 (n92_run k _ _  _ hk)
  · cases h
theorem goodR92 : GoodR 92 := fun _ _ _ _ _ _ h => by simp [SR] at h
end Go.Proofs.YtofklpmlgfbmlaaGreat.ZRat
namespace Go.Proofs.YtofklpmlgfbmlaaGreat.ZRat
open Go.RowKit Go.Proofs.YtofklpmlgfbmlaaGreat.Wd
open Go Go.Proofs.YtofklpmlgfbmlaaGreat.Ab Go.Proofs
set_option linter.unusedSimpArgs false
set_option linter.unusedVariables false
set_option maxHeartbeats 4000000
set_option maxRecDepth 10000
noncomputable def E93 : Env := mkE [] [145, 146] [] []
theorem n93_run (k : Nat) (a0 : Int) (r : (List Int)) (h : nat_Of.f k a0 = some r) : AEnds E93 (finW Tryz.prog Tryz.f93.results) 0 [.code (Tryz.f93.body.getD .skip)] (startA Tryz.f93 [(.int .u64 a0)] [] []) (rowI .u32 r) := by
  unfold nat_Of.f at h
  simp only [Tryz.f93, Option.getD_some, startA]
  obtain ⟨t1, e2, h⟩ := Option.bind_eq_some_iff.1 h
  have p3 := pick_of (fun k r h => nat_trim.mono _  k r h) e2
  obtain ⟨t4, e5, h⟩ := Option.bind_eq_some_iff.1 h
  obtain rfl := Option.some.inj h
  simp (maxSteps := 2000000) (disch := (first | omega | (simp only [List.length_append, List.length_map, List.length_cons, List.length_nil, List.length_set, List.length_replicate, List.length_take, List.size_toArray]; omega))) [E93, p3, e5]
  try omega
theorem fit93 : Fits Tryz.prog E93.ref E93.dep Tryz.f93 = true := by kernel_rfl
theorem good93 : GoodV 93 := by
  intro xs r h
  simp only [SV] at h
  unfold SV93 at h
  split at h
  · obtain ⟨a0, h0, h⟩ := Option.bind_eq_some_iff.1 h
    obtain ⟨q, hq, rfl⟩ := Option.map_eq_some_iff.1 h
    obtain ⟨k, hk⟩ := of_pick hq
    obtain rfl := unN_eq h0
    exact okW_ends (mkE_ok (all_cons good145 (all_cons good146 all_nil)) (all_cons goodR145 (all_cons goodR146 all_nil))) mixed Tryz.func93 rfl fit93 (n93_run k _  _ hk)
  · cases h
theorem goodR93 : GoodR 93 := fun _ _ _ _ _ _ h => by simp [SR] at h
end Go.Proofs.YtofklpmlgfbmlaaGreat.ZRat
namespace Go.Proofs.YtofklpmlgfbmlaaGreat.ZRat
open Go.RowKit Go.Proofs.YtofklpmlgfbmlaaGreat.Wd
open Go Go.Proofs.YtofklpmlgfbmlaaGreat.Ab Go.Proofs
set_option linter.unusedSimpArgs false
set_option linter.unusedVariables false
set_option maxHeartbeats 4000000
set_option maxRecDepth 10000
noncomputable def E144 : Env := mkE [] [145, 146] [] []
theorem n144_run (k : Nat) (l0 : List Int) (r : (List Int)) (h : nat_Trim.f k l0 = some r) : AEnds E144 (finW Tryz.prog Tryz.f144.results) 0 [.code (Tryz.f144.body.getD .skip)] (startA Tryz.f144 [(rowI .u32 l0)] [] []) (rowI .u32 r) := by
  unfold nat_Trim.f at h
  simp only [Tryz.f144, Option.getD_some, startA]
  obtain ⟨t1, e2, h⟩ := Option.bind_eq_some_iff.1 h
  have p3 := pick_of (fun k r h => nat_trim.mono _  k r h) e2
  obtain ⟨t4, e5, h⟩ := Option.bind_eq_some_iff.1 h
  obtain rfl := Option.some.inj h
  simp (maxSteps := 2000000) (disch := (first | omega | (simp only [List.length_append, List.length_map, List.length_cons, List.length_nil, List.length_set, List.length_replicate, List.length_take, List.size_toArray]; omega))) [E144, p3, e5]
  try omega
theorem fit144 : Fits Tryz.prog E144.ref E144.dep Tryz.f144 = true := by kernel_rfl
theorem good144 : GoodV 144 := by
  intro xs r h
  simp only [SV] at h
  unfold SV144 at h
  split at h
  · obtain ⟨a0, h0, h⟩ := Option.bind_eq_some_iff.1 h
    obtain ⟨q, hq, rfl⟩ := Option.map_eq_some_iff.1 h
    obtain ⟨k, hk⟩ := of_pick hq
    obtain rfl := unI_eq h0
    exact okW_ends (mkE_ok (all_cons good145 (all_cons good146 all_nil)) (all_cons goodR145 (all_cons goodR146 all_nil))) mixed Tryz.func144 rfl fit144 (n144_run k _  _ hk)
  · cases h
theorem goodR144 : GoodR 144 := fun _ _ _ _ _ _ h => by simp [SR] at h
end Go.Proofs.YtofklpmlgfbmlaaGreat.ZRat
namespace Go.Proofs.YtofklpmlgfbmlaaGreat.ZRat
open Go.RowKit Go.Proofs.YtofklpmlgfbmlaaGreat.Wd
open Go Go.Proofs.YtofklpmlgfbmlaaGreat.Ab Go.Proofs
set_option linter.unusedSimpArgs false
set_option linter.unusedVariables false
set_option maxHeartbeats 4000000
set_option maxRecDepth 10000
noncomputable def E186 : Env := mkE [145, 193, 195, 196] [145, 192, 193, 194, 195, 196] [(7, [6, 7, 8, 9, 10, 11, 12, 13]), (18, [6, 10, 16, 17, 18])] []
theorem n186_ls (r : (List Int × List Int)) (k : Nat) : (∀ (tl : List Int) (x6 : Int) (x7 : List Int) (x8 : List Int) (x9 : Int) (x10 : List Int) (x11 : Int) (x12 : Int) (x13 : Int), nat_long.l0 k x6 x7 x8 x9 x10 x11 x12 x13 = some r → AEnds E186 (finW Tryz.prog Tryz.f186.results) 0 (atLoop Tryz.f186 7) ⟨fr 112 [(6, (.int .i64 x6)), (7, .own 0 0 x7.length 1), (8, .own 1 0 x8.length 1), (9, (.int .i64 x9)), (10, .own 2 0 x10.length 1), (11, (.int .u64 x11)), (12, (.int .u64 x12)), (13, (.int .i64 x13))], [.arr ((x7).map (.int .u32)), .arr ((x8 ++ tl).map (.int .u32)), .arr ((x10).map (.int .u32))], [false, false, false]⟩ (.tup [(rowI .u32 r.1), (rowI .u32 r.2)])) ∧ (∀ (tl : List Int) (x6 : Int) (x10 : List Int) (x16 : List Int) (x17 : Int) (x18 : Int), nat_long.l1 k x6 x10 x16 x17 x18 = some r → AEnds E186 (finW Tryz.prog Tryz.f186.results) 0 (atLoop Tryz.f186 18) ⟨fr 112 [(6, (.int .i64 x6)), (10, .own 0 0 x10.length 1), (16, .own 1 0 x16.length 1), (17, (.int .u64 x17)), (18, (.int .i64 x18))], [.arr ((x10).map (.int .u32)), .arr ((x16 ++ tl).map (.int .u32))], [false, false]⟩ (.tup [(rowI .u32 r.1), (rowI .u32 r.2)])) := by
  induction k using Nat.strongRecOn with
  | _ k ih =>
  refine ⟨?_, ?_⟩
  · intro tl x6 x7 x8 x9 x10 x11 x12 x13 h
    cases k with
    | zero => simp [nat_long.l0] at h
    | succ k1 =>
    simp only [nat_long.l0] at h
    simp only [Tryz.f186, atLoop, seek, firstR, reduceIte, Option.getD_some, Nat.reduceEqDiff]
    replace h := ite_some h
    rcases h with ⟨c2, h⟩ | ⟨c2, h⟩
    · replace h := ite_some h
      rcases h with ⟨c3, h⟩ | ⟨c3, h⟩
      · replace h := ite_some h
        rcases h with ⟨c4, h⟩ | ⟨c4, h⟩
        · replace h := ite_some h
          rcases h with ⟨c5, h⟩ | ⟨c5, h⟩
          · replace h := Option.bind_eq_some_iff.1 h
            obtain ⟨t6, e7, h⟩ := h
            have p8 := pick_of (fun k r h => nat_guess.mono _ _ _  k r h) e7
            simp only [List.drop_take] at p8
            replace h := Option.bind_eq_some_iff.1 h
            obtain ⟨t9, e10, h⟩ := h
            obtain ⟨q11a, q11b, q11c, t9b, q11p, q11l, rfl⟩ := offX_out e10
            have q11e := Nat.add_sub_of_le (Int.toNat_le_toNat (Int.le_of_lt q11b))
            try dsimp only at h
            replace h := ite_some h
            rcases h with ⟨c12, h⟩ | ⟨c12, h⟩
            · replace h := Option.bind_eq_some_iff.1 h
              obtain ⟨t13, e14, h⟩ := h
              obtain ⟨q15a, q15b, q15c, t13b, q15p, q15l, rfl⟩ := backX_out e14
              have q15e := Nat.add_sub_of_le (Int.toNat_le_toNat (Int.le_of_lt q15b))
              try dsimp only at h
              simp (maxSteps := 2000000) (disch := (first | omega | (simp only [List.length_append, List.length_map, List.length_cons, List.length_nil, List.length_set, List.length_replicate, List.length_take, List.size_toArray]; omega))) [E186, c2, c3, c4, c5, p8, q11p, q11l, q11e, c12, q15e] at q15p
              replace h := ite_some h
              rcases h with ⟨c16, h⟩ | ⟨c16, h⟩
              · simp (maxSteps := 2000000) (disch := (first | omega | (simp only [List.length_append, List.length_map, List.length_cons, List.length_nil, List.length_set, List.length_replicate, List.length_take, List.size_toArray]; omega))) [E186, c2, c3, c4, c5, p8, q11p, q11l, q11e, c12, q15p, q15l, q15e, c16]
                refine AEnds.againS ((ih k1 (by omega)).1 tl _ _ _ _ _ _ _ _  h) ?_
                simp only [E186, firstR, mk_keep, keepT, List.find?, Nat.reduceBEq, Option.map_some, Option.getD_some]
                simp (maxSteps := 2000000) (disch := (first | omega | (simp only [List.length_append, List.length_map, List.length_cons, List.length_nil, List.length_set, List.length_replicate, List.length_take, List.size_toArray]; omega))) [E186, c2, c3, c4, c5, p8, q11p, q11l, q11e, c12, q15p, q15l, q15e, c16]
                try omega
              · cases h
            · replace h := ite_some h
              rcases h with ⟨c17, h⟩ | ⟨c17, h⟩
              · simp (maxSteps := 2000000) (disch := (first | omega | (simp only [List.length_append, List.length_map, List.length_cons, List.length_nil, List.length_set, List.length_replicate, List.length_take, List.size_toArray]; omega))) [E186, c2, c3, c4, c5, p8, q11p, q11l, q11e, c12, c17]
                refine AEnds.againS ((ih k1 (by omega)).1 tl _ _ _ _ _ _ _ _  h) ?_
                simp only [E186, firstR, mk_keep, keepT, List.find?, Nat.reduceBEq, Option.map_some, Option.getD_some]
                simp (maxSteps := 2000000) (disch := (first | omega | (simp only [List.length_append, List.length_map, List.length_cons, List.length_nil, List.length_set, List.length_replicate, List.length_take, List.size_toArray]; omega))) [E186, c2, c3, c4, c5, p8, q11p, q11l, q11e, c12, c17]
                try omega
              · cases h
          · cases h
        · cases h
      · cases h
    · replace h := Option.bind_eq_some_iff.1 h
      obtain ⟨t18, e19, h⟩ := h
      have p20 := pick_of (fun k r h => nat_trim.mono _  k r h) e19
      obtain ⟨tlq21, q21⟩ := trim_pre e19
      subst q21
      simp (maxSteps := 2000000) (disch := (first | omega | (simp only [List.length_append, List.length_map, List.length_cons, List.length_nil, List.length_set, List.length_replicate, List.length_take, List.size_toArray]; omega))) [E186, c2, p20]
      refine AEnds.loopS ((ih k1 (by omega)).2 tlq21 _ _ _ _ _  h) ?_
      simp only [E186, firstR, mk_keep, keepT, List.find?, Nat.reduceBEq, Option.map_some, Option.getD_some]
      simp (maxSteps := 2000000) (disch := (first | omega | (simp only [List.length_append, List.length_map, List.length_cons, List.length_nil, List.length_set, List.length_replicate, List.length_take, List.size_toArray]; omega))) [E186, c2, p20]
      try omega
  · intro tl x6 x10 x16 x17 x18 h
    cases k with
    | zero => simp [nat_long.l1] at h
    | succ k22 =>
    simp only [nat_long.l1] at h
    simp only [Tryz.f186, atLoop, seek, firstR, reduceIte, Option.getD_some, Nat.reduceEqDiff]
    replace h := ite_some h
    rcases h with ⟨c23, h⟩ | ⟨c23, h⟩
    · replace h := ite_some h
      rcases h with ⟨c24, h⟩ | ⟨c24, h⟩
      · replace h := ite_some h
        rcases h with ⟨c25, h⟩ | ⟨c25, h⟩
        · replace h := ite_some h
          rcases h with ⟨c26, h⟩ | ⟨c26, h⟩
          · simp (maxSteps := 2000000) (disch := (first | omega | (simp only [List.length_append, List.length_map, List.length_cons, List.length_nil, List.length_set, List.length_replicate, List.length_take, List.size_toArray]; omega))) [E186, c23, c24, c25, c26]
            refine AEnds.againS ((ih k22 (by omega)).2 tl _ _ _ _ _  h) ?_
            simp only [E186, firstR, mk_keep, keepT, List.find?, Nat.reduceBEq, Option.map_some, Option.getD_some]
            simp (maxSteps := 2000000) (disch := (first | omega | (simp only [List.length_append, List.length_map, List.length_cons, List.length_nil, List.length_set, List.length_replicate, List.length_take, List.size_toArray]; omega))) [E186, c23, c24, c25, c26]
            try omega
          · cases h
        · cases h
      · cases h
    · replace h := Option.bind_eq_some_iff.1 h
      obtain ⟨t27, e28, h⟩ := h
      have p29 := pick_of (fun k r h => nat_trim.mono _  k r h) e28
      obtain ⟨tlq30, q30⟩ := trim_pre e28
      subst q30
      replace h := Option.bind_eq_some_iff.1 h
      obtain ⟨t31, e32, h⟩ := h
      have p33 := pick_of (fun k r h => nat_trim.mono _  k r h) e32
      obtain ⟨tlq34, q34⟩ := trim_pre e32
      subst q34
      obtain rfl := Option.some.inj h
      simp (maxSteps := 2000000) (disch := (first | omega | (simp only [List.length_append, List.length_map, List.length_cons, List.length_nil, List.length_set, List.length_replicate, List.length_take, List.size_toArray]; omega))) [E186, c23, p29, p33]
      try omega
theorem n186_run (k : Nat) (l0 : List Int) (l1 : List Int) (r : (List Int × List Int)) (h : nat_long.f k l0 l1 = some r) : AEnds E186 (finW Tryz.prog Tryz.f186.results) 0 [.code (Tryz.f186.body.getD .skip)] (startA Tryz.f186 [(rowI .u32 l0), (rowI .u32 l1)] [] []) (.tup [(rowI .u32 r.1), (rowI .u32 r.2)]) := by
  unfold nat_long.f at h
  simp only [Tryz.f186, Option.getD_some, startA]
  replace h := ite_some h
  rcases h with ⟨c35, h⟩ | ⟨c35, h⟩
  · replace h := ite_some h
    rcases h with ⟨c36, h⟩ | ⟨c36, h⟩
    · replace h := Option.bind_eq_some_iff.1 h
      obtain ⟨t37, e38, h⟩ := h
      replace h := Option.bind_eq_some_iff.1 h
      obtain ⟨t39, e40, h⟩ := h
      have p41 := pick_of (fun k r h => nat_shift.mono _ _  k r h) e40
      replace h := Option.bind_eq_some_iff.1 h
      obtain ⟨t42, e43, h⟩ := h
      have p44 := pick_of (fun k r h => nat_shift.mono _ _  k r h) e43
      replace h := Option.bind_eq_some_iff.1 h
      obtain ⟨t45, e46, h⟩ := h
      have p47 := pick_of (fun k r h => nat_trim.mono _  k r h) e46
      obtain ⟨tlq48, q48⟩ := trim_pre e46
      subst q48
      replace h := ite_some h
      rcases h with ⟨c49, h⟩ | ⟨c49, h⟩
      · replace h := ite_some h
        rcases h with ⟨c50, h⟩ | ⟨c50, h⟩
        · replace h := Option.bind_eq_some_iff.1 h
          obtain ⟨t51, e52, h⟩ := h
          obtain rfl := Option.some.inj e52
          replace h := ite_some h
          rcases h with ⟨c53, h⟩ | ⟨c53, h⟩
          · replace h := ite_some h
            rcases h with ⟨c54, h⟩ | ⟨c54, h⟩
            · replace h := ite_some h
              rcases h with ⟨c55, h⟩ | ⟨c55, h⟩
              · replace h := ite_some h
                rcases h with ⟨c56, h⟩ | ⟨c56, h⟩
                · simp (maxSteps := 2000000) (disch := (first | omega | (simp only [List.length_append, List.length_map, List.length_cons, List.length_nil, List.length_set, List.length_replicate, List.length_take, List.size_toArray]; omega))) [E186, c35, c36, e38, p41, p44, p47, c49, c50, c53, c54, c55, c56]
                  refine AEnds.loopS ((n186_ls _ _).1 tlq48 _ _ _ _ _ _ _ _  h) ?_
                  simp only [E186, firstR, mk_keep, keepT, List.find?, Nat.reduceBEq, Option.map_some, Option.getD_some]
                  simp (maxSteps := 2000000) (disch := (first | omega | (simp only [List.length_append, List.length_map, List.length_cons, List.length_nil, List.length_set, List.length_replicate, List.length_take, List.size_toArray]; omega))) [E186, c35, c36, e38, p41, p44, p47, c49, c50, c53, c54, c55, c56]
                  try omega
                · cases h
              · cases h
            · cases h
          · cases h
        · cases h
      · cases h
    · cases h
  · cases h
theorem fit186 : Fits Tryz.prog E186.ref E186.dep Tryz.f186 = true := by kernel_rfl
theorem good186 : GoodV 186 := by
  intro xs r h
  simp only [SV] at h
  unfold SV186 at h
  split at h
  · obtain ⟨a0, h0, h⟩ := Option.bind_eq_some_iff.1 h
    obtain ⟨a1, h1, h⟩ := Option.bind_eq_some_iff.1 h
    obtain ⟨q, hq, rfl⟩ := Option.map_eq_some_iff.1 h
    obtain ⟨k, hk⟩ := of_pick hq
    obtain rfl := unI_eq h0
    obtain rfl := unI_eq h1
    exact okW_ends (mkE_ok (all_cons good145 (all_cons good192 (all_cons good193 (all_cons good194 (all_cons good195 (all_cons good196 all_nil)))))) (all_cons goodR145 (all_cons goodR192 (all_cons goodR193 (all_cons goodR194 (all_cons goodR195 (all_cons goodR196 all_nil))))))) mixed Tryz.func186 rfl fit186 (n186_run k _ _  _ hk)
  · cases h
theorem goodR186 : GoodR 186 := fun _ _ _ _ _ _ h => by simp [SR] at h
end Go.Proofs.YtofklpmlgfbmlaaGreat.ZRat
namespace Go.Proofs.YtofklpmlgfbmlaaGreat.ZRat
open Go.RowKit Go.Proofs.YtofklpmlgfbmlaaGreat.Wd
open Go Go.Proofs.YtofklpmlgfbmlaaGreat.Ab Go.Proofs
set_option linter.unusedSimpArgs false
set_option linter.unusedVariables false
set_option maxHeartbeats 4000000
set_option maxRecDepth 10000
noncomputable def E172 : Env := mkE [146, 185] [145, 146, 148, 185, 186] [] []
theorem n172_run (k : Nat) (l0 : List Int) (l1 : List Int) (r : (List Int × List Int)) (h : nat_divmod.f k l0 l1 = some r) : AEnds E172 (finW Tryz.prog Tryz.f172.results) 0 [.code (Tryz.f172.body.getD .skip)] (startA Tryz.f172 [(rowI .u32 l0), (rowI .u32 l1)] [] []) (.tup [(rowI .u32 r.1), (rowI .u32 r.2)]) := by
  unfold nat_divmod.f at h
  simp only [Tryz.f172, Option.getD_some, startA]
  obtain ⟨t1, e2, h⟩ := Option.bind_eq_some_iff.1 h
  have p3 := pick_of (fun k r h => nat_cmp.mono _ _  k r h) e2
  rcases ite_some h with ⟨c4, h⟩ | ⟨c4, h⟩
  · obtain ⟨t5, e6, h⟩ := Option.bind_eq_some_iff.1 h
    obtain rfl := Option.some.inj h
    simp (maxSteps := 2000000) (disch := (first | omega | (simp only [List.length_append, List.length_map, List.length_cons, List.length_nil, List.length_set, List.length_replicate, List.length_take, List.size_toArray]; omega))) [E172, p3, c4, e6]
    try omega
  · rcases ite_some h with ⟨c7, h⟩ | ⟨c7, h⟩
    · obtain ⟨t8, e9, h⟩ := Option.bind_eq_some_iff.1 h
      rcases ite_some h with ⟨c10, h⟩ | ⟨c10, h⟩
      · obtain ⟨t11, e12, h⟩ := Option.bind_eq_some_iff.1 h
        have p13 := pick_of (fun k r h => nat_short.mono _ _  k r h) e12
        have q14 := short_len e12
        obtain ⟨t15, e16, h⟩ := Option.bind_eq_some_iff.1 h
        have p17 := pick_of (fun k r h => nat_trim.mono _  k r h) e16
        obtain ⟨t18, e19, h⟩ := Option.bind_eq_some_iff.1 h
        have p20 := pick_of (fun k r h => nat_trim.mono _  k r h) e19
        obtain rfl := Option.some.inj h
        simp (maxSteps := 2000000) (disch := (first | omega | (simp only [List.length_append, List.length_map, List.length_cons, List.length_nil, List.length_set, List.length_replicate, List.length_take, List.size_toArray]; omega))) [E172, p3, c4, c7, e9, c10, p13, q14, p17, p20]
        try omega
      · cases h
    · obtain ⟨t21, e22, h⟩ := Option.bind_eq_some_iff.1 h
      have p23 := pick_of (fun k r h => nat_long.mono _ _  k r h) e22
      obtain rfl := Option.some.inj h
      simp (maxSteps := 2000000) (disch := (first | omega | (simp only [List.length_append, List.length_map, List.length_cons, List.length_nil, List.length_set, List.length_replicate, List.length_take, List.size_toArray]; omega))) [E172, p3, c4, c7, p23]
      try omega
theorem fit172 : Fits Tryz.prog E172.ref E172.dep Tryz.f172 = true := by kernel_rfl
theorem good172 : GoodV 172 := by
  intro xs r h
  simp only [SV] at h
  unfold SV172 at h
  split at h
  · obtain ⟨a0, h0, h⟩ := Option.bind_eq_some_iff.1 h
    obtain ⟨a1, h1, h⟩ := Option.bind_eq_some_iff.1 h
    obtain ⟨q, hq, rfl⟩ := Option.map_eq_some_iff.1 h
    obtain ⟨k, hk⟩ := of_pick hq
    obtain rfl := unI_eq h0
    obtain rfl := unI_eq h1
    exact okW_ends (mkE_ok (all_cons good145 (all_cons good146 (all_cons good148 (all_cons good185 (all_cons good186 all_nil))))) (all_cons goodR145 (all_cons goodR146 (all_cons goodR148 (all_cons goodR185 (all_cons goodR186 all_nil)))))) mixed Tryz.func172 rfl fit172 (n172_run k _ _  _ hk)
  · cases h
theorem goodR172 : GoodR 172 := fun _ _ _ _ _ _ h => by simp [SR] at h
end Go.Proofs.YtofklpmlgfbmlaaGreat.ZRat
namespace Go.Proofs.YtofklpmlgfbmlaaGreat.ZRat
open Go.RowKit Go.Proofs.YtofklpmlgfbmlaaGreat.Wd
open Go Go.Proofs.YtofklpmlgfbmlaaGreat.Ab Go.Proofs
set_option linter.unusedSimpArgs false
set_option linter.unusedVariables false
set_option maxHeartbeats 4000000
set_option maxRecDepth 10000
noncomputable def E158 : Env := mkE [] [145, 172] [] []
theorem n158_run (k : Nat) (l0 : List Int) (l1 : List Int) (r : (List Int × List Int × Int)) (h : nat_DivMod.f k l0 l1 = some r) : AEnds E158 (finW Tryz.prog Tryz.f158.results) 0 [.code (Tryz.f158.body.getD .skip)] (startA Tryz.f158 [(rowI .u32 l0), (rowI .u32 l1)] [] []) (.tup [(rowI .u32 r.1), (rowI .u32 r.2.1), (.int .i64 r.2.2)]) := by
  unfold nat_DivMod.f at h
  simp only [Tryz.f158, Option.getD_some, startA]
  obtain ⟨t1, e2, h⟩ := Option.bind_eq_some_iff.1 h
  have p3 := pick_of (fun k r h => nat_trim.mono _  k r h) e2
  obtain ⟨t4, e5, h⟩ := Option.bind_eq_some_iff.1 h
  have p6 := pick_of (fun k r h => nat_trim.mono _  k r h) e5
  rcases ite_some h with ⟨c7, h⟩ | ⟨c7, h⟩
  · obtain rfl := Option.some.inj h
    simp (maxSteps := 2000000) (disch := (first | omega | (simp only [List.length_append, List.length_map, List.length_cons, List.length_nil, List.length_set, List.length_replicate, List.length_take, List.size_toArray]; omega))) [E158, p3, p6, c7]
    try omega
  · obtain ⟨t8, e9, h⟩ := Option.bind_eq_some_iff.1 h
    have p10 := pick_of (fun k r h => nat_divmod.mono _ _  k r h) e9
    obtain rfl := Option.some.inj h
    simp (maxSteps := 2000000) (disch := (first | omega | (simp only [List.length_append, List.length_map, List.length_cons, List.length_nil, List.length_set, List.length_replicate, List.length_take, List.size_toArray]; omega))) [E158, p3, p6, c7, p10]
    try omega
theorem fit158 : Fits Tryz.prog E158.ref E158.dep Tryz.f158 = true := by kernel_rfl
theorem good158 : GoodV 158 := by
  intro xs r h
  simp only [SV] at h
  unfold SV158 at h
  split at h
  · obtain ⟨a0, h0, h⟩ := Option.bind_eq_some_iff.1 h
    obtain ⟨a1, h1, h⟩ := Option.bind_eq_some_iff.1 h
    obtain ⟨q, hq, rfl⟩ := Option.map_eq_some_iff.1 h
    obtain ⟨k, hk⟩ := of_pick hq
    obtain rfl := unI_eq h0
    obtain rfl := unI_eq h1
    exact okW_ends (mkE_ok (all_cons good145 (all_cons good172 all_nil)) (all_cons goodR145 (all_cons goodR172 all_nil))) mixed Tryz.func158 rfl fit158 (n158_run k _ _  _ hk)
  · cases h
end Go.Proofs.YtofklpmlgfbmlaaGreat.ZRat
namespace Go.Proofs.YtofklpmlgfbmlaaGreat.ZRat
open Go.RowKit Go.Proofs.YtofklpmlgfbmlaaGreat.Wd
open Go Go.Proofs.YtofklpmlgfbmlaaGreat.Ab Go.Proofs
set_option linter.unusedSimpArgs false
set_option linter.unusedVariables false
set_option maxHeartbeats 4000000
set_option maxRecDepth 10000
noncomputable def E157 : Env := mkE [] [145, 146, 172] [(2, [0, 1])] []
theorem n157_ls (r : (List Int)) (k : Nat) : (∀ (x0 : List Int) (x1 : List Int), nat_Gcd.l0 k x0 x1 = some r → AEnds E157 (finW Tryz.prog Tryz.f157.results) 0 (atLoop Tryz.f157 2) ⟨fr 25 [(0, (rowI .u32 x0)), (1, (rowI .u32 x1))], [], []⟩ (rowI .u32 r)) := by
  induction k using Nat.strongRecOn with
  | _ k ih =>
  intro x0 x1 h
  cases k with
  | zero => simp [nat_Gcd.l0] at h
  | succ k1 =>
  simp only [nat_Gcd.l0] at h
  simp only [Tryz.f157, atLoop, seek, firstR, reduceIte, Option.getD_some, Nat.reduceEqDiff]
  rcases ite_some h with ⟨c2, h⟩ | ⟨c2, h⟩
  · obtain ⟨t3, e4, h⟩ := Option.bind_eq_some_iff.1 h
    have p5 := pick_of (fun k r h => nat_divmod.mono _ _  k r h) e4
    simp (maxSteps := 2000000) (disch := (first | omega | (simp only [List.length_append, List.length_map, List.length_cons, List.length_nil, List.length_set, List.length_replicate, List.length_take, List.size_toArray]; omega))) [E157, c2, p5]
    refine AEnds.againS ((ih k1 (by omega)) _ _  h) ?_
    simp only [E157, firstR, mk_keep, keepT, List.find?, Nat.reduceBEq, Option.map_some, Option.getD_some]
    simp (maxSteps := 2000000) (disch := (first | omega | (simp only [List.length_append, List.length_map, List.length_cons, List.length_nil, List.length_set, List.length_replicate, List.length_take, List.size_toArray]; omega))) [E157, c2, p5]
    try omega
  · obtain rfl := Option.some.inj h
    simp (maxSteps := 2000000) (disch := (first | omega | (simp only [List.length_append, List.length_map, List.length_cons, List.length_nil, List.length_set, List.length_replicate, List.length_take, List.size_toArray]; omega))) [E157, c2]
    try omega
theorem n157_run (k : Nat) (l0 : List Int) (l1 : List Int) (r : (List Int)) (h : nat_Gcd.f k l0 l1 = some r) : AEnds E157 (finW Tryz.prog Tryz.f157.results) 0 [.code (Tryz.f157.body.getD .skip)] (startA Tryz.f157 [(rowI .u32 l0), (rowI .u32 l1)] [] []) (rowI .u32 r) := by
  unfold nat_Gcd.f at h
  simp only [Tryz.f157, Option.getD_some, startA]
  obtain ⟨t6, e7, h⟩ := Option.bind_eq_some_iff.1 h
  have p8 := pick_of (fun k r h => nat_trim.mono _  k r h) e7
  obtain ⟨t9, e10, h⟩ := Option.bind_eq_some_iff.1 h
  obtain ⟨t11, e12, h⟩ := Option.bind_eq_some_iff.1 h
  have p13 := pick_of (fun k r h => nat_trim.mono _  k r h) e12
  obtain ⟨t14, e15, h⟩ := Option.bind_eq_some_iff.1 h
  simp (maxSteps := 2000000) (disch := (first | omega | (simp only [List.length_append, List.length_map, List.length_cons, List.length_nil, List.length_set, List.length_replicate, List.length_take, List.size_toArray]; omega))) [E157, p8, e10, p13, e15]
  refine AEnds.loopS ((n157_ls _ _) _ _  h) ?_
  simp only [E157, firstR, mk_keep, keepT, List.find?, Nat.reduceBEq, Option.map_some, Option.getD_some]
  simp (maxSteps := 2000000) (disch := (first | omega | (simp only [List.length_append, List.length_map, List.length_cons, List.length_nil, List.length_set, List.length_replicate, List.length_take, List.size_toArray]; omega))) [E157, p8, e10, p13, e15]
  try omega
theorem fit157 : Fits Tryz.prog E157.ref E157.dep Tryz.f157 = true := by kernel_rfl
theorem good157 : GoodV 157 := by
  intro xs r h
  simp only [SV] at h
  unfold SV157 at h
  split at h
  · obtain ⟨a0, h0, h⟩ := Option.bind_eq_some_iff.1 h
    obtain ⟨a1, h1, h⟩ := Option.bind_eq_some_iff.1 h
    obtain ⟨q, hq, rfl⟩ := Option.map_eq_some_iff.1 h
    obtain ⟨k, hk⟩ := of_pick hq
    obtain rfl := unI_eq h0
    obtain rfl := unI_eq h1
    exact okW_ends (mkE_ok (all_cons good145 (all_cons good146 (all_cons good172 all_nil))) (all_cons goodR145 (all_cons goodR146 (all_cons goodR172 all_nil)))) mixed Tryz.func157 rfl fit157 (n157_run k _ _  _ hk)
  · cases h
end Go.Proofs.YtofklpmlgfbmlaaGreat.ZRat
namespace Go.Proofs.YtofklpmlgfbmlaaGreat.ZRat
open Go.RowKit Go.Proofs.YtofklpmlgfbmlaaGreat.Wd
open Go Go.Proofs.YtofklpmlgfbmlaaGreat.Ab Go.Proofs
set_option linter.unusedSimpArgs false
set_option linter.unusedVariables false
set_option maxHeartbeats 4000000
set_option maxRecDepth 10000
noncomputable def E170 : Env := mkE [] [145, 181] [] []
theorem n170_run (k : Nat) (l0 : List Int) (r : (Int)) (h : nat_size.f k l0 = some r) : AEnds E170 (finW Tryz.prog Tryz.f170.results) 0 [.code (Tryz.f170.body.getD .skip)] (startA Tryz.f170 [(rowI .u32 l0)] [] []) (.int .i64 r) := by
  unfold nat_size.f at h
  simp only [Tryz.f170, Option.getD_some, startA]
  obtain ⟨t1, e2, h⟩ := Option.bind_eq_some_iff.1 h
  have p3 := pick_of (fun k r h => nat_trim.mono _  k r h) e2
  rcases ite_some h with ⟨c4, h⟩ | ⟨c4, h⟩
  · obtain rfl := Option.some.inj h
    simp (maxSteps := 2000000) (disch := (first | omega | (simp only [List.length_append, List.length_map, List.length_cons, List.length_nil, List.length_set, List.length_replicate, List.length_take, List.size_toArray]; omega))) [E170, p3, c4]
    try omega
  · rcases ite_some h with ⟨c5, h⟩ | ⟨c5, h⟩
    · rcases ite_some h with ⟨c6, h⟩ | ⟨c6, h⟩
      · obtain ⟨t7, e8, h⟩ := Option.bind_eq_some_iff.1 h
        obtain rfl := Option.some.inj h
        simp (maxSteps := 2000000) (disch := (first | omega | (simp only [List.length_append, List.length_map, List.length_cons, List.length_nil, List.length_set, List.length_replicate, List.length_take, List.size_toArray]; omega))) [E170, p3, c4, c5, c6, e8]
        try omega
      · cases h
    · cases h
theorem fit170 : Fits Tryz.prog E170.ref E170.dep Tryz.f170 = true := by kernel_rfl
theorem good170 : GoodV 170 := by
  intro xs r h
  simp only [SV] at h
  unfold SV170 at h
  split at h
  · obtain ⟨a0, h0, h⟩ := Option.bind_eq_some_iff.1 h
    obtain ⟨q, hq, rfl⟩ := Option.map_eq_some_iff.1 h
    obtain ⟨k, hk⟩ := of_pick hq
    obtain rfl := unI_eq h0
    exact okW_ends (mkE_ok (all_cons good145 (all_cons good181 all_nil)) (all_cons goodR145 (all_cons goodR181 all_nil))) mixed Tryz.func170 rfl fit170 (n170_run k _  _ hk)
  · cases h
theorem goodR170 : GoodR 170 := fun _ _ _ _ _ _ h => by simp [SR] at h
end Go.Proofs.YtofklpmlgfbmlaaGreat.ZRat
namespace Go.Proofs.YtofklpmlgfbmlaaGreat.ZRat
open Go.RowKit Go.Proofs.YtofklpmlgfbmlaaGreat.Wd
open Go Go.Proofs.YtofklpmlgfbmlaaGreat.Ab Go.Proofs
set_option linter.unusedSimpArgs false
set_option linter.unusedVariables false
set_option maxHeartbeats 4000000
set_option maxRecDepth 10000
noncomputable def E147 : Env := mkE [] [170] [] []
theorem n147_run (k : Nat) (l0 : List Int) (r : (Int)) (h : nat_Bits.f k l0 = some r) : AEnds E147 (finW Tryz.prog Tryz.f147.results) 0 [.code (Tryz.f147.body.getD .skip)] (startA Tryz.f147 [(rowI .u32 l0)] [] []) (.int .i64 r) := by
  unfold nat_Bits.f at h
  simp only [Tryz.f147, Option.getD_some, startA]
  obtain ⟨t1, e2, h⟩ := Option.bind_eq_some_iff.1 h
  have p3 := pick_of (fun k r h => nat_size.mono _  k r h) e2
  obtain rfl := Option.some.inj h
  simp (maxSteps := 2000000) (disch := (first | omega | (simp only [List.length_append, List.length_map, List.length_cons, List.length_nil, List.length_set, List.length_replicate, List.length_take, List.size_toArray]; omega))) [E147, p3]
  try omega
theorem fit147 : Fits Tryz.prog E147.ref E147.dep Tryz.f147 = true := by kernel_rfl
theorem good147 : GoodV 147 := by
  intro xs r h
  simp only [SV] at h
  unfold SV147 at h
  split at h
  · obtain ⟨a0, h0, h⟩ := Option.bind_eq_some_iff.1 h
    obtain ⟨q, hq, rfl⟩ := Option.map_eq_some_iff.1 h
    obtain ⟨k, hk⟩ := of_pick hq
    obtain rfl := unI_eq h0
    exact okW_ends (mkE_ok (all_cons good170 all_nil) (all_cons goodR170 all_nil)) mixed Tryz.func147 rfl fit147 (n147_run k _  _ hk)
  · cases h
theorem goodR147 : GoodR 147 := fun _ _ _ _ _ _ h => by simp [SR] at h
end Go.Proofs.YtofklpmlgfbmlaaGreat.ZRat
