/- The sides, the area and the widest angle of any triangle, or that it is none. For every input; no condition. -/
-- printed by row4.py, a program of this session's
import Derived.Test.YtofklpmlgfbmlaaGreatRows
import Derived.Test.YtofklpmlgfbmlaaGreatLXQualityShapes
import Derived.Test.YtofklpmlgfbmlaaGreatC9
import Derived.WalkKit
import Derived.ProofKit
import Derived.OpenShut
import Derived.ShutString
import Derived.ChangeOld
import Derived.Below
import Derived.WideShapes
import Derived.SizedLaws
import Derived.ChangeSlices
namespace Go.Proofs.YtofklpmlgfbmlaaGreat.qualityShapes
open Go.ChangeShapes Go.WideShapes Go.ChangeAt Go.RowKit Go.Proofs.YtofklpmlgfbmlaaGreat.Num Go.Proofs.YtofklpmlgfbmlaaGreat.Ab Go.Proofs.YtofklpmlgfbmlaaGreat.ZRat
theorem own : ownKnob Tryz.prog.godebug = none := by kernel_rfl
theorem laidOut : laidOutB Tryz.prog = true := by kernel_rfl
theorem WB_wf {l : List Int} (h : ∀ x ∈ l, (Lit.int .u32 x).wf = true) : WB 4294967296 l := by
  intro x hx
  have := h x hx
  simp only [Lit.wf, IntKind.min, IntKind.max, IntKind.signed, IntKind.bits, Bool.and_eq_true, decide_eq_true_eq] at this
  simp at this
  omega
theorem i64_wf {n : Int} (h : (Lit.int .i64 n).wf = true) : -9223372036854775808 ≤ n ∧ n < 9223372036854775808 := by
  simp only [Lit.wf, IntKind.min, IntKind.max, IntKind.signed, IntKind.bits, Bool.and_eq_true, decide_eq_true_eq] at h
  simp at h
  omega
set_option maxRecDepth 100000 in
theorem tyP {xs : List AV} (h : TyL Tryz.prog 3 23 xs) : ∃ x y : Int, xs = [.int .i64 x, .int .i64 y] ∧ (-9223372036854775808 ≤ x ∧ x < 9223372036854775808) ∧ (-9223372036854775808 ≤ y ∧ y < 9223372036854775808) := by
  obtain ⟨ys0, z0, rfl, h0, ys1, z1, rfl, h1, rfl⟩ := ty_struct (d := 2) Tryz.underlying23 h
  obtain ⟨x, rfl, w0⟩ := ty_int (d := 1) Tryz.underlying2 h0
  obtain ⟨y, rfl, w1⟩ := ty_int (d := 1) Tryz.underlying2 h1
  exact ⟨x, y, rfl, i64_wf w0, i64_wf w1⟩
set_option maxRecDepth 100000 in
theorem lifted (os : Os) (started : os.Started) (H : Type) (enc : TypeId × Value → H) :
    ReturnsInHanded {} Tryz.checked os 7 .any (Rows.qualityShapesSpec.pre6 enc Tryz.prog Tryz.f7 Rows.qualityShapesRow.domain false) (Rows.qualityShapesSpec.post enc Tryz.prog Tryz.f7 false true false false) := by
  refine returnsInHanded_of_change_sized (C := Tryz.checked) own started (by kernel_rfl) Tryz.func7
    (ChangeSpec.witness6 (enc := enc) (C := Tryz.checked) false ⟨#[], #[.agg #[.int .i64 0, .int .i64 0], .agg #[.int .i64 0, .int .i64 0], .agg #[.int .i64 0, .int .i64 0]], []⟩ 8 (by kernel_rfl) (by kernel_rfl) (by kernel_rfl) (by kernel_rfl)) ?_
  intro W base args ds gs before hval0 hW hcnd _ _
  have hval : ∀ (j : Nat) t v, Tryz.f7.params[j]? = some t → args[j]? = some v → Value.okWide Tryz.prog W .any base t v := hval0
  have hW' := hW
  obtain ⟨p, q, hA0, hV, rfl, hfz, hnd⟩ := hW
  have hA : DataW.TrodAll enc Tryz.prog W 0 (fun _ => true) true Tryz.f7.params.toList args.toList ds p := hA0
  rw [Tryz.params7] at hA hval
  obtain ⟨v0, vs0, d0, ds0, p0, q0, hargs, rfl, rfl, h0, r0⟩ := trodAll_cons hA
  obtain ⟨v1, vs1, d1, ds1, p1, q1, rfl, rfl, rfl, h1, r1⟩ := trodAll_cons r0
  obtain ⟨v2, vs2, d2, ds2, p2, q2, rfl, rfl, rfl, h2, r2⟩ := trodAll_cons r1
  obtain ⟨rfl, rfl, rfl⟩ := trodAll_nil r2
  obtain rfl : args = #[v0, v1, v2] := by cases args; simp_all
  obtain ⟨rfl, rfl⟩ := trodVars_none hV
  have k0 := h0
  have lt0 : ∀ x ∈ p0, x.block < W.heap.size := by obtain ⟨m, hm⟩ := k0; exact DataW.trod_lt m _ _ _ hm
  obtain ⟨x0, e0, ty0⟩ := open_agg (n := 3) (.inl ⟨_, Tryz.underlying23⟩) (hval 0 23 v0 rfl rfl) h0 (by kernel_rfl)
  obtain ⟨px0, py0, rfl, wa0⟩ := tyP ty0
  have k1 := h1
  have lt1 : ∀ x ∈ p1, x.block < W.heap.size := by obtain ⟨m, hm⟩ := k1; exact DataW.trod_lt m _ _ _ hm
  obtain ⟨x1, e1, ty1⟩ := open_agg (n := 3) (.inl ⟨_, Tryz.underlying23⟩) (hval 1 23 v1 rfl rfl) h1 (by kernel_rfl)
  obtain ⟨px1, py1, rfl, wa1⟩ := tyP ty1
  have k2 := h2
  have lt2 : ∀ x ∈ p2, x.block < W.heap.size := by obtain ⟨m, hm⟩ := k2; exact DataW.trod_lt m _ _ _ hm
  obtain ⟨x2, e2, ty2⟩ := open_agg (n := 3) (.inl ⟨_, Tryz.underlying23⟩) (hval 2 23 v2 rfl rfl) h2 (by kernel_rfl)
  obtain ⟨px2, py2, rfl, wa2⟩ := tyP ty2
  clear hA0 hval0
  refine ((law_QualityShapes px0 py0 wa0 px1 py1 wa1 px2 py2 wa2).2 (Old W) W [v0, v1, v2] (fun b h => h) (LR.cons e0 (LR.cons e1 (LR.cons e2 LR.nil)))).mono fun e W' ⟨v, S', he, hv, X⟩ => ?_
  have hv2 : v = .bool true := by simpa only [V3, V2, V1, P1] using hv
  subst hv2
  have bel := X.below
  subst he
  exact ⟨_, rfl, _, _, _, [], _, [], hW', trodAll_mk1 (shut_bool Tryz.underlying4 _), (trodAll_cons_mk (Below.trod laidOut (by kernel_rfl) (of_decide_eq_true (by kernel_rfl)) k0 bel lt0) (trodAll_cons_mk (Below.trod laidOut (by kernel_rfl) (of_decide_eq_true (by kernel_rfl)) k1 bel lt1) (trodAll_cons_mk (Below.trod laidOut (by kernel_rfl) (of_decide_eq_true (by kernel_rfl)) k2 bel lt2) trodAll_mk0))), rfl, bel.frame _, fun h => by cases h⟩
theorem over : Rows.qualityShapesRow.holds Tryz.pinned (OpenSpec.ofChange Rows.qualityShapesSpec) :=
  OpenClaim.holds_of_wide 7 Tryz.f7 rfl rfl rfl rfl rfl rfl rfl ⟨rfl, rfl, rfl, rfl, rfl⟩ rfl rfl rfl rfl rfl (by kernel_rfl) Tryz.func7 (by kernel_rfl)
    (of_decide_eq_true (by kernel_rfl)) (by unfold Func.isWrapper; first | (rw [if_pos (by decide +kernel)]; kernel_rfl) | (rw [if_neg (by decide +kernel)]; exact ⟨rfl, rfl⟩))
    (fun os started H enc _ => lifted os started H enc)
theorem proved : Rows.QualityShapesSaid := over
#print axioms proved
end Go.Proofs.YtofklpmlgfbmlaaGreat.qualityShapes
namespace Go.Proofs.YtofklpmlgfbmlaaGreat
/-- The row, under a short name, for the claim. -/
theorem qualityShapes_holds : Rows.QualityShapesSaid := qualityShapes.proved
end Go.Proofs.YtofklpmlgfbmlaaGreat
