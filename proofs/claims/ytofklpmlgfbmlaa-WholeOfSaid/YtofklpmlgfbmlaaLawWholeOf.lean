/- Any number of 64, and of 256 bits, is as the document says. -/
-- printed by row4.py, a program of this session's
import Derived.Test.YtofklpmlgfbmlaaRows
import Derived.Test.YtofklpmlgfbmlaaLXWholeOf
import Derived.Test.YtofklpmlgfbmlaaC9
import Derived.WalkKit
import Derived.ProofKit
import Derived.OpenShut
import Derived.ShutString
import Derived.ChangeOld
import Derived.Below
import Derived.WideShapes
import Derived.SizedLaws
import Derived.ChangeSlices
namespace Go.Proofs.Ytofklpmlgfbmlaa.wholeOf
open Go.ChangeShapes Go.WideShapes Go.ChangeAt Go.RowKit Go.Proofs.Ytofklpmlgfbmlaa.Num Go.Proofs.Ytofklpmlgfbmlaa.Ab Go.Proofs.Ytofklpmlgfbmlaa.ZRat
set_option linter.unusedVariables false
set_option linter.unusedSimpArgs false
theorem own : ownKnob Try.prog.godebug = none := by kernel_rfl
theorem laidOut : laidOutB Try.prog = true := by kernel_rfl
theorem WB_wf {l : List Int} (h : ∀ x ∈ l, (Lit.int .u32 x).wf = true) : WB 4294967296 l := by
  intro x hx
  have := h x hx
  simp only [Lit.wf, IntKind.min, IntKind.max, IntKind.signed, IntKind.bits, Bool.and_eq_true, decide_eq_true_eq] at this
  simp at this
  omega
theorem u64_wf {n : Int} (h : (Lit.int .u64 n).wf = true) : 0 ≤ n ∧ n < 18446744073709551616 := by
  simp only [Lit.wf, IntKind.min, IntKind.max, IntKind.signed, IntKind.bits, Bool.and_eq_true, decide_eq_true_eq] at h
  simp at h
  omega
set_option maxRecDepth 100000 in
theorem tyK {xs : List AV} (h : TyL Try.prog 3 24 xs) : ∃ a : Int, AV.agg xs = quadA a ∧ -57896044618658097711785492504343953926634992332820282019728792003956564819968 ≤ a ∧ a < 57896044618658097711785492504343953926634992332820282019728792003956564819968 := by
  obtain ⟨ys0, z0, rfl, h0, ys1, z1, rfl, h1, ys2, z2, rfl, h2, ys3, z3, rfl, h3, rfl⟩ := ty_array (d := 2) Try.underlying24 h
  obtain ⟨n0, rfl, w0⟩ := ty_int (d := 1) Try.underlying22 h0
  have w0 := u64_wf w0
  obtain ⟨n1, rfl, w1⟩ := ty_int (d := 1) Try.underlying22 h1
  have w1 := u64_wf w1
  obtain ⟨n2, rfl, w2⟩ := ty_int (d := 1) Try.underlying22 h2
  have w2 := u64_wf w2
  obtain ⟨n3, rfl, w3⟩ := ty_int (d := 1) Try.underlying22 h3
  have w3 := u64_wf w3
  refine ⟨n0 + n1 * 18446744073709551616 + n2 * 340282366920938463463374607431768211456 + n3 * 6277101735386680763835789423207666416102355444464034512896 + (-(if 9223372036854775808 ≤ n3 then 1 else 0)) * 115792089237316195423570985008687907853269984665640564039457584007913129639936, (quad_of w0 w1 w2 w3 rfl).symm, ?_⟩
  split <;> omega
set_option maxRecDepth 100000 in
theorem lifted (os : Os) (started : os.Started) (H : Type) (enc : TypeId × Value → H) :
    ReturnsInHanded {} Try.checked os 3 .any (Rows.wholeOfSpec.pre6 enc Try.prog Try.f3 Rows.wholeOfRow.domain false) (Rows.wholeOfSpec.post enc Try.prog Try.f3 false true false false) := by
  refine returnsInHanded_of_change_sized (C := Try.checked) own started (by kernel_rfl) Try.func3
    (ChangeSpec.witness6 (enc := enc) (C := Try.checked) false ⟨#[], #[.int .i64 0, .agg #[.int .u64 0, .int .u64 0, .int .u64 0, .int .u64 0]], []⟩ 8 (by kernel_rfl) (by kernel_rfl) (by kernel_rfl) (by kernel_rfl)) ?_
  intro W base args ds gs before hval0 hW hcnd _ _
  have hval : ∀ (j : Nat) t v, Try.f3.params[j]? = some t → args[j]? = some v → Value.okWide Try.prog W .any base t v := hval0
  have hW' := hW
  obtain ⟨p, q, hA0, hV, rfl, hfz, hnd⟩ := hW
  have hA : DataW.TrodAll enc Try.prog W 0 (fun _ => true) true Try.f3.params.toList args.toList ds p := hA0
  rw [Try.params3] at hA hval
  obtain ⟨v0, vs0, d0, ds0, p0, q0, hargs, rfl, rfl, h0, r0⟩ := trodAll_cons hA
  obtain ⟨v1, vs1, d1, ds1, p1, q1, rfl, rfl, rfl, h1, r1⟩ := trodAll_cons r0
  obtain ⟨rfl, rfl, rfl⟩ := trodAll_nil r1
  obtain rfl : args = #[v0, v1] := by cases args; simp_all
  obtain ⟨rfl, rfl⟩ := trodVars_none hV
  have k0 := h0
  have lt0 : ∀ x ∈ p0, x.block < W.heap.size := by obtain ⟨m, hm⟩ := k0; exact DataW.trod_lt m _ _ _ hm
  obtain ⟨n0, rfl⟩ := okWide_int Try.underlying2 (hval 0 2 v0 rfl rfl)
  obtain ⟨x0, e0, ty0⟩ := open_one (n := 2) rfl h0 (by kernel_rfl : plainT Try.prog 2 2 = true) (by kernel_rfl)
  obtain ⟨a0, ea0, wa0⟩ := ty_int (d := 1) Try.underlying2 ty0
  simp only [List.cons.injEq, and_true] at ea0
  subst ea0
  have wa0 : -9223372036854775808 ≤ a0 ∧ a0 < 9223372036854775808 := by
    simp only [Lit.wf, IntKind.min, IntKind.max, IntKind.signed, IntKind.bits, Bool.and_eq_true, decide_eq_true_eq] at wa0
    simp at wa0
    omega
  have k1 := h1
  have lt1 : ∀ x ∈ p1, x.block < W.heap.size := by obtain ⟨m, hm⟩ := k1; exact DataW.trod_lt m _ _ _ hm
  obtain ⟨x1, e1, ty1⟩ := open_agg (n := 3) (.inr ⟨_, _, Try.underlying24⟩) (hval 1 24 v1 rfl rfl) h1 (by kernel_rfl)
  obtain ⟨a1, ea1, wa1⟩ := tyK ty1
  rw [ea1] at e1
  clear hA0 hval0
  refine ((law_WholeOf a0 wa0 a1 wa1).2 (Old W) W [_, v1] (fun b h => h) (LR.cons (show V2 none' (Old W) W _ _ from e0.v1.v2) (LR.cons e1 LR.nil))).mono fun e W' ⟨v, S', he, hv, X⟩ => ?_
  have hv2 : v = .bool true := by simpa only [V3, V2, V1, P1] using hv
  subst hv2
  have bel := X.below
  subst he
  exact ⟨_, rfl, _, _, _, [], _, [], hW', trodAll_mk1 (shut_bool Try.underlying4 _), (trodAll_cons_mk (Below.trod laidOut (by kernel_rfl) (of_decide_eq_true (by kernel_rfl)) k0 bel lt0) (trodAll_cons_mk (Below.trod laidOut (by kernel_rfl) (of_decide_eq_true (by kernel_rfl)) k1 bel lt1) trodAll_mk0)), rfl, bel.frame _, fun h => by cases h⟩
theorem over : Rows.wholeOfRow.holds Try.pinned (OpenSpec.ofChange Rows.wholeOfSpec) :=
  OpenClaim.holds_of_wide 3 Try.f3 rfl rfl rfl rfl rfl rfl rfl ⟨rfl, rfl, rfl, rfl, rfl⟩ rfl rfl rfl rfl rfl (by kernel_rfl) Try.func3 (by kernel_rfl)
    (of_decide_eq_true (by kernel_rfl)) (by unfold Func.isWrapper; first | (rw [if_pos (by decide +kernel)]; kernel_rfl) | (rw [if_neg (by decide +kernel)]; exact ⟨rfl, rfl⟩))
    (fun os started H enc _ => lifted os started H enc)
theorem proved : Rows.WholeOfSaid := over
#print axioms proved
end Go.Proofs.Ytofklpmlgfbmlaa.wholeOf
namespace Go.Proofs.Ytofklpmlgfbmlaa
/-- The row, under a short name, for the claim. -/
theorem wholeOf_holds : Rows.WholeOfSaid := wholeOf.proved
end Go.Proofs.Ytofklpmlgfbmlaa
