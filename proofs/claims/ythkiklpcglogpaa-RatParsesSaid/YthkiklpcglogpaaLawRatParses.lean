/- Which fraction any text is of, and which is of none, is as the document says. -/
-- printed by row4.py, a program of this session's
import Derived.Test.YthkiklpcglogpaaRows
import Derived.Test.YthkiklpcglogpaaLXRatParses
import Derived.Test.YthkiklpcglogpaaC9
import Derived.WalkKit
import Derived.ProofKit
import Derived.OpenShut
import Derived.ShutString
import Derived.ChangeOld
import Derived.Below
import Derived.WideShapes
import Derived.SizedLaws
import Derived.ChangeSlices
namespace Go.Proofs.Ythkiklpcglogpaa.ratParses
open Go.ChangeShapes Go.WideShapes Go.ChangeAt Go.RowKit Go.Proofs.Ythkiklpcglogpaa.Num Go.Proofs.Ythkiklpcglogpaa.Ab Go.Proofs.Ythkiklpcglogpaa.ZRat
set_option linter.unusedVariables false
set_option linter.unusedSimpArgs false
theorem own : ownKnob Try.prog.godebug = none := by kernel_rfl
theorem laidOut : laidOutB Try.prog = true := by kernel_rfl
theorem WB_wf {l : List Int} (h : ∀ x ∈ l, (Lit.int .u32 x).wf = true) : WB 4294967296 l := by
  intro x hx
  have := h x hx
  simp only [Lit.wf, IntKind.min, IntKind.max, IntKind.signed, IntKind.bits, Bool.and_eq_true, decide_eq_true_eq] at this
  simp at this
  omega
set_option maxRecDepth 100000 in
theorem lifted (os : Os) (started : os.Started) (H : Type) (enc : TypeId × Value → H) :
    ReturnsInHanded {} Try.checked os 4 .any (Rows.ratParsesSpec.pre6 enc Try.prog Try.f4 Rows.ratParsesRow.domain false) (Rows.ratParsesSpec.post enc Try.prog Try.f4 false true false false) := by
  refine returnsInHanded_of_change_sized (C := Try.checked) own started (by kernel_rfl) Try.func4
    (ChangeSpec.witness6 (enc := enc) (C := Try.checked) false ⟨#[], #[.string .empty], []⟩ 8 (by kernel_rfl) (by kernel_rfl) (by kernel_rfl) (by kernel_rfl)) ?_
  intro W base args ds gs before hval0 hW hcnd _ _
  have hval : ∀ (j : Nat) t v, Try.f4.params[j]? = some t → args[j]? = some v → Value.okWide Try.prog W .any base t v := hval0
  have hW' := hW
  obtain ⟨p, q, hA0, hV, rfl, hfz, hnd⟩ := hW
  have hA : DataW.TrodAll enc Try.prog W 0 (fun _ => true) true Try.f4.params.toList args.toList ds p := hA0
  rw [Try.params4] at hA hval
  obtain ⟨v0, vs0, d0, ds0, p0, q0, hargs, rfl, rfl, h0, r0⟩ := trodAll_cons hA
  obtain ⟨rfl, rfl, rfl⟩ := trodAll_nil r0
  obtain rfl : args = #[v0] := by cases args; simp_all
  obtain ⟨rfl, rfl⟩ := trodVars_none hV
  have k0 := h0
  have lt0 : ∀ x ∈ p0, x.block < W.heap.size := by obtain ⟨m, hm⟩ := k0; exact DataW.trod_lt m _ _ _ hm
  obtain ⟨n0, rfl⟩ := okWide_string Try.underlying9 (hval 0 9 v0 rfl rfl)
  obtain ⟨x0, e0, ty0⟩ := open_one (n := 2) rfl h0 (by kernel_rfl : plainT Try.prog 2 9 = true) (by kernel_rfl)
  obtain ⟨a0, ea0, wa0⟩ := ty_str (d := 1) Try.underlying9 ty0
  simp only [List.cons.injEq, and_true] at ea0
  subst ea0
  clear hA0 hval0
  refine ((law_RatParses a0 wa0).2 (Old W) W [_] (fun b h => h) (LR.cons (show V2 none' (Old W) W _ _ from e0.v1.v2) LR.nil)).mono fun e W' ⟨v, S', he, hv, X⟩ => ?_
  have hv2 : v = .bool true := by simpa only [V3, V2, V1, P1] using hv
  subst hv2
  have bel := X.below
  subst he
  exact ⟨_, rfl, _, _, _, [], _, [], hW', trodAll_mk1 (shut_bool Try.underlying4 _), (trodAll_cons_mk (Below.trod laidOut (by kernel_rfl) (of_decide_eq_true (by kernel_rfl)) k0 bel lt0) trodAll_mk0), rfl, bel.frame _, fun h => by cases h⟩
theorem over : Rows.ratParsesRow.holds Try.pinned (OpenSpec.ofChange Rows.ratParsesSpec) :=
  OpenClaim.holds_of_wide 4 Try.f4 rfl rfl rfl rfl rfl rfl rfl ⟨rfl, rfl, rfl, rfl, rfl⟩ rfl rfl rfl rfl rfl (by kernel_rfl) Try.func4 (by kernel_rfl)
    (of_decide_eq_true (by kernel_rfl)) (by unfold Func.isWrapper; first | (rw [if_pos (by decide +kernel)]; kernel_rfl) | (rw [if_neg (by decide +kernel)]; exact ⟨rfl, rfl⟩))
    (fun os started H enc _ => lifted os started H enc)
theorem proved : Rows.RatParsesSaid := over
#print axioms proved
end Go.Proofs.Ythkiklpcglogpaa.ratParses
namespace Go.Proofs.Ythkiklpcglogpaa
/-- The row, under a short name, for the claim. -/
theorem ratParses_holds : Rows.RatParsesSaid := ratParses.proved
end Go.Proofs.Ythkiklpcglogpaa
