/- Any fraction's text is as the document says, and is read as the fraction, in lowest terms. -/
-- printed by row4.py, a program of this session's
import Derived.Test.YthkiklpcglogpaaRows
import Derived.Test.YthkiklpcglogpaaLXRatShows
import Derived.Test.YthkiklpcglogpaaC9
import Derived.WalkKit
import Derived.ProofKit
import Derived.OpenShut
import Derived.ShutString
import Derived.ChangeOld
import Derived.Below
import Derived.WideShapes
import Derived.SizedLaws
import Derived.ChangeSlices
namespace Go.Proofs.Ythkiklpcglogpaa.ratShows
open Go.ChangeShapes Go.WideShapes Go.ChangeAt Go.RowKit Go.Proofs.Ythkiklpcglogpaa.Num Go.Proofs.Ythkiklpcglogpaa.Ab Go.Proofs.Ythkiklpcglogpaa.ZRat
set_option linter.unusedVariables false
set_option linter.unusedSimpArgs false
theorem own : ownKnob Try.prog.godebug = none := by kernel_rfl
theorem laidOut : laidOutB Try.prog = true := by kernel_rfl
theorem WB_wf {l : List Int} (h : ∀ x ∈ l, (Lit.int .u32 x).wf = true) : WB 4294967296 l := by
  intro x hx
  have := h x hx
  simp only [Lit.wf, IntKind.min, IntKind.max, IntKind.signed, IntKind.bits, Bool.and_eq_true, decide_eq_true_eq] at this
  simp at this
  omega
set_option maxRecDepth 100000 in
theorem tyI {xs : List AV} (h : TyL Try.prog 6 25 xs) : ∃ (b : Bool) (l : List Int), xs = [.bool b, rowI .u32 l] ∧ WB 4294967296 l := by
  obtain ⟨ys, zs, rfl, h1, ys2, zs2, rfl, h2, rfl⟩ := ty_struct (d := 5) Try.underlying25 h
  obtain ⟨b, rfl⟩ := ty_bool (d := 4) Try.underlying4 h1
  obtain ⟨l, rfl, hl⟩ := ty_row (d := 3) Try.underlying23 Try.underlying54 h2
  exact ⟨b, l, rfl, WB_wf hl⟩
set_option maxRecDepth 100000 in
theorem tyX {xs : List AV} (h : TyL Try.prog 7 27 xs) : ∃ (b : Bool) (l m : List Int), xs = [.bool b, rowI .u32 l, rowI .u32 m] ∧ WB 4294967296 l ∧ WB 4294967296 m := by
  obtain ⟨ys, zs, rfl, h1, ys2, zs2, rfl, h2, rfl⟩ := ty_struct (d := 6) Try.underlying27 h
  obtain ⟨b, l, rfl, w⟩ := tyI h1
  obtain ⟨m, rfl, hm⟩ := ty_row (d := 4) Try.underlying23 Try.underlying54 h2
  exact ⟨b, l, m, rfl, w, WB_wf hm⟩
set_option maxRecDepth 100000 in
theorem lifted (os : Os) (started : os.Started) (H : Type) (enc : TypeId × Value → H) :
    ReturnsInHanded {} Try.checked os 3 .any (Rows.ratShowsSpec.pre6 enc Try.prog Try.f3 Rows.ratShowsRow.domain false) (Rows.ratShowsSpec.post enc Try.prog Try.f3 false true false false) := by
  refine returnsInHanded_of_change_sized (C := Try.checked) own started (by kernel_rfl) Try.func3
    (ChangeSpec.witness6 (enc := enc) (C := Try.checked) false ⟨#[], #[.agg #[.bool false, .slice none 0 0, .slice none 0 0]], []⟩ 8 (by kernel_rfl) (by kernel_rfl) (by kernel_rfl) (by kernel_rfl)) ?_
  intro W base args ds gs before hval0 hW hcnd _ _
  have hval : ∀ (j : Nat) t v, Try.f3.params[j]? = some t → args[j]? = some v → Value.okWide Try.prog W .any base t v := hval0
  have hW' := hW
  obtain ⟨p, q, hA0, hV, rfl, hfz, hnd⟩ := hW
  have hA : DataW.TrodAll enc Try.prog W 0 (fun _ => true) true Try.f3.params.toList args.toList ds p := hA0
  rw [Try.params3] at hA hval
  obtain ⟨v0, vs0, d0, ds0, p0, q0, hargs, rfl, rfl, h0, r0⟩ := trodAll_cons hA
  obtain ⟨rfl, rfl, rfl⟩ := trodAll_nil r0
  obtain rfl : args = #[v0] := by cases args; simp_all
  obtain ⟨rfl, rfl⟩ := trodVars_none hV
  have k0 := h0
  have lt0 : ∀ x ∈ p0, x.block < W.heap.size := by obtain ⟨m, hm⟩ := k0; exact DataW.trod_lt m _ _ _ hm
  obtain ⟨x0, e0, ty0⟩ := open_agg (n := 7) (.inl ⟨_, Try.underlying27⟩) (hval 0 27 v0 rfl rfl) h0 (by kernel_rfl)
  obtain ⟨s0, l0, m0, rfl, wl0, wm0⟩ := tyX ty0
  clear hA0 hval0
  refine ((law_RatShows s0 l0 m0 wl0 wm0).2 (Old W) W [v0] (fun b h => h) (LR.cons e0 LR.nil)).mono fun e W' ⟨v, S', he, hv, X⟩ => ?_
  have hv2 : v = .bool true := by simpa only [V3, V2, V1, P1] using hv
  subst hv2
  have bel := X.below
  subst he
  exact ⟨_, rfl, _, _, _, [], _, [], hW', trodAll_mk1 (shut_bool Try.underlying4 _), (trodAll_cons_mk (Below.trod laidOut (by kernel_rfl) (of_decide_eq_true (by kernel_rfl)) k0 bel lt0) trodAll_mk0), rfl, bel.frame _, fun h => by cases h⟩
theorem over : Rows.ratShowsRow.holds Try.pinned (OpenSpec.ofChange Rows.ratShowsSpec) :=
  OpenClaim.holds_of_wide 3 Try.f3 rfl rfl rfl rfl rfl rfl rfl ⟨rfl, rfl, rfl, rfl, rfl⟩ rfl rfl rfl rfl rfl (by kernel_rfl) Try.func3 (by kernel_rfl)
    (of_decide_eq_true (by kernel_rfl)) (by unfold Func.isWrapper; first | (rw [if_pos (by decide +kernel)]; kernel_rfl) | (rw [if_neg (by decide +kernel)]; exact ⟨rfl, rfl⟩))
    (fun os started H enc _ => lifted os started H enc)
theorem proved : Rows.RatShowsSaid := over
#print axioms proved
end Go.Proofs.Ythkiklpcglogpaa.ratShows
namespace Go.Proofs.Ythkiklpcglogpaa
/-- The row, under a short name, for the claim. -/
theorem ratShows_holds : Rows.RatShowsSaid := ratShows.proved
end Go.Proofs.Ythkiklpcglogpaa
