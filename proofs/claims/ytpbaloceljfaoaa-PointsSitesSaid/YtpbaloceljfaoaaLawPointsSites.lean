/- The law PointsSites holds. -/
-- printed by row4.py, a program of this session's
import Derived.Test.YtpbaloceljfaoaaRows
import Derived.Test.YtpbaloceljfaoaaXPsL
import Derived.Test.YtpbaloceljfaoaaOpen
import Derived.WalkKit
import Derived.ProofKit
import Derived.OpenShut
import Derived.ShutString
import Derived.ChangeOld
import Derived.Below
import Derived.WideShapes
import Derived.SizedLaws
import Derived.ChangeSlices
set_option linter.unusedVariables false
set_option linter.unusedSimpArgs false
namespace Go.Proofs.Ytpbaloceljfaoaa.pointsSites
open Go.ChangeShapes Go.WideShapes Go.ChangeAt Go.RowKit Go.Proofs.Ytpbaloceljfaoaa.Ab Go.Proofs.Ytpbaloceljfaoaa.ZRat
set_option linter.unusedVariables false
set_option linter.unusedSimpArgs false
theorem own : ownKnob Try.prog.godebug = none := by kernel_rfl
theorem laidOut : laidOutB Try.prog = true := by kernel_rfl
set_option maxRecDepth 100000 in
theorem tyG1 {xs : List AV} (h : TyL Try.prog 3 34 xs) : ∃ p : G3, xs = cG p := by
  obtain ⟨ys0, z0, rfl, h0, ys1, z1, rfl, h1, ys2, z2, rfl, h2, rfl⟩ := ty_struct (d := 2) Try.underlying34 h
  obtain ⟨n0, rfl, -⟩ := ty_int (d := 1) Try.underlying3 h0
  obtain ⟨n1, rfl, -⟩ := ty_int (d := 1) Try.underlying3 h1
  obtain ⟨n2, rfl, -⟩ := ty_int (d := 1) Try.underlying3 h2
  exact ⟨(n0, n1, n2), rfl⟩
theorem ghosts_of : ∀ {l : List (List AV)}, (∀ ys ∈ l, ∃ p : G3, ys = cG p) → ∃ r : List G3, l.length = r.length ∧ l.flatten = r.flatMap cG
  | [], _ => ⟨[], rfl, rfl⟩
  | y :: l, h => by
    obtain ⟨p, rfl⟩ := h y (by simp)
    obtain ⟨r, e1, e2⟩ := ghosts_of (l := l) (fun ys hy => h ys (by simp [hy]))
    exact ⟨p :: r, by simp [e1], by rw [List.flatten_cons, e2, List.flatMap_cons]⟩
set_option maxRecDepth 100000 in
theorem tyG {x : AV} (h : TyL Try.prog 4 22 [x]) : ∃ r : List G3, x = rowG r := by
  obtain ⟨l, e, _, hl⟩ := ty_slice (d := 3) Try.underlying22 h
  obtain ⟨r, e1, e2⟩ := ghosts_of (l := l) (fun ys hy => tyG1 (hl ys hy).2)
  simp only [List.cons.injEq, and_true] at e
  exact ⟨r, by rw [e, e1, e2]; rfl⟩
set_option maxRecDepth 100000 in
theorem lifted (os : Os) (started : os.Started) (H : Type) (enc : TypeId × Value → H) :
    ReturnsInHanded {} Try.checked os 3 .any (Rows.pointsSitesSpec.pre6 enc Try.prog Try.f3 Rows.pointsSitesRow.domain false) (Rows.pointsSitesSpec.post enc Try.prog Try.f3 false true false false) := by
  refine returnsInHanded_of_change_sized (C := Try.checked) own started (by kernel_rfl) Try.func3
    (ChangeSpec.witness6 (enc := enc) (C := Try.checked) false ⟨#[], #[.int .i64 0, .slice none 0 0], []⟩ 8 (by kernel_rfl) (by kernel_rfl) (by kernel_rfl) (by kernel_rfl)) ?_
  intro W base args ds gs before hval0 hW hcnd _ _
  have hval : ∀ (j : Nat) t v, Try.f3.params[j]? = some t → args[j]? = some v → Value.okWide Try.prog W .any base t v := hval0
  have hW' := hW
  obtain ⟨p, q, hA0, hV, rfl, hfz, hnd⟩ := hW
  have hA : DataW.TrodAll enc Try.prog W 0 (fun _ => true) true Try.f3.params.toList args.toList ds p := hA0
  rw [Try.params3] at hA hval
  obtain ⟨v0, vs0, d0, ds0, p0, q0, hargs, rfl, rfl, h0, r0⟩ := trodAll_cons hA
  obtain ⟨v1, vs1, d1, ds1, p1, q1, rfl, rfl, rfl, h1, r1⟩ := trodAll_cons r0
  obtain ⟨rfl, rfl, rfl⟩ := trodAll_nil r1
  obtain rfl : args = #[v0, v1] := by cases args; simp_all
  obtain ⟨rfl, rfl⟩ := trodVars_none hV
  have k0 := h0
  have lt0 : ∀ x ∈ p0, x.block < W.heap.size := by obtain ⟨m, hm⟩ := k0; exact DataW.trod_lt m _ _ _ hm
  obtain ⟨n0, rfl⟩ := okWide_int Try.underlying3 (hval 0 3 v0 rfl rfl)
  obtain ⟨x0, e0, ty0⟩ := open_one (n := 2) rfl h0 (by kernel_rfl : plainT Try.prog 2 3 = true) (by kernel_rfl)
  obtain ⟨a0, ea0, wa0⟩ := ty_int (d := 1) Try.underlying3 ty0
  simp only [List.cons.injEq, and_true] at ea0
  subst ea0
  have wa0 : -9223372036854775808 ≤ a0 ∧ a0 < 9223372036854775808 := by
    simp only [Lit.wf, IntKind.min, IntKind.max, IntKind.signed, IntKind.bits, Bool.and_eq_true, decide_eq_true_eq] at wa0
    simp at wa0
    omega
  have k1 := h1
  have lt1 : ∀ x ∈ p1, x.block < W.heap.size := by obtain ⟨m, hm⟩ := k1; exact DataW.trod_lt m _ _ _ hm
  obtain ⟨sa1, sl1, sc1, rfl⟩ := okWide_slice Try.underlying22 (hval 1 22 v1 rfl rfl)
  obtain ⟨x1, e1, ty1⟩ := open_one (n := 4) rfl h1 (by kernel_rfl : plainT Try.prog 4 22 = true) (by kernel_rfl)
  obtain ⟨fr1, rfl⟩ := tyG ty1
  clear hA0 hval0
  refine ((law_PointsSites a0 fr1).2 (Old W) W [_, _] (fun b h => h) (LR.cons (show V2 none' (Old W) W _ _ from e0.v1.v2) (LR.cons (show V2 none' (Old W) W _ _ from e1.v1.v2) LR.nil))).mono fun e W' ⟨v, S', he, hv, X⟩ => ?_
  have hv2 : v = .bool true := by simpa only [V3, V2, V1, P1] using hv
  subst hv2
  have bel := X.below
  subst he
  exact ⟨_, rfl, _, _, _, [], _, [], hW', trodAll_mk1 (shut_bool Try.underlying4 _), (trodAll_cons_mk (Below.trod laidOut (by kernel_rfl) (of_decide_eq_true (by kernel_rfl)) k0 bel lt0) (trodAll_cons_mk (Below.trod laidOut (by kernel_rfl) (of_decide_eq_true (by kernel_rfl)) k1 bel lt1) trodAll_mk0)), rfl, bel.frame _, fun h => by cases h⟩
theorem over : Rows.pointsSitesRow.holds Try.pinned (OpenSpec.ofChange Rows.pointsSitesSpec) :=
  OpenClaim.holds_of_wide 3 Try.f3 rfl rfl rfl rfl rfl rfl rfl ⟨rfl, rfl, rfl, rfl, rfl⟩ rfl rfl rfl rfl rfl (by kernel_rfl) Try.func3 (by kernel_rfl)
    (of_decide_eq_true (by kernel_rfl)) (by unfold Func.isWrapper; first | (rw [if_pos (by decide +kernel)]; kernel_rfl) | (rw [if_neg (by decide +kernel)]; exact ⟨rfl, rfl⟩))
    (fun os started H enc _ => lifted os started H enc)
theorem proved : Rows.PointsSitesSaid := over
#print axioms proved
end Go.Proofs.Ytpbaloceljfaoaa.pointsSites
namespace Go.Proofs.Ytpbaloceljfaoaa
/-- The row, under a short name, for the claim. -/
theorem pointsSites_holds : Rows.PointsSitesSaid := pointsSites.proved
end Go.Proofs.Ytpbaloceljfaoaa
