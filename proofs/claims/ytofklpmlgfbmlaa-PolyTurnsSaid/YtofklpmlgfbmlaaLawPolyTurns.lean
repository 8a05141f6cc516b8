/- It does not hang on from which spot a polygon is told, nor whether one is told twice, and the other way round its area has the other sign. -/
-- printed by row4.py, a program of this session's
import Derived.Test.YtofklpmlgfbmlaaRows
import Derived.Test.YtofklpmlgfbmlaaLXPolyTurns
import Derived.Test.YtofklpmlgfbmlaaC9
import Derived.WalkKit
import Derived.ProofKit
import Derived.OpenShut
import Derived.ShutString
import Derived.ChangeOld
import Derived.Below
import Derived.WideShapes
import Derived.SizedLaws
import Derived.ChangeSlices
namespace Go.Proofs.Ytofklpmlgfbmlaa.polyTurns
open Go.ChangeShapes Go.WideShapes Go.ChangeAt Go.RowKit Go.Proofs.Ytofklpmlgfbmlaa.Num Go.Proofs.Ytofklpmlgfbmlaa.Ab Go.Proofs.Ytofklpmlgfbmlaa.ZRat
set_option linter.unusedVariables false
set_option linter.unusedSimpArgs false
theorem own : ownKnob Try.prog.godebug = none := by kernel_rfl
theorem laidOut : laidOutB Try.prog = true := by kernel_rfl
theorem WB_wf {l : List Int} (h : ∀ x ∈ l, (Lit.int .u32 x).wf = true) : WB 4294967296 l := by
  intro x hx
  have := h x hx
  simp only [Lit.wf, IntKind.min, IntKind.max, IntKind.signed, IntKind.bits, Bool.and_eq_true, decide_eq_true_eq] at this
  simp at this
  omega
set_option maxRecDepth 100000 in
theorem tyI {xs : List AV} (h : TyL Try.prog 6 30 xs) : ∃ (b : Bool) (l : List Int), xs = [.bool b, rowI .u32 l] ∧ WB 4294967296 l := by
  obtain ⟨ys, zs, rfl, h1, ys2, zs2, rfl, h2, rfl⟩ := ty_struct (d := 5) Try.underlying30 h
  obtain ⟨b, rfl⟩ := ty_bool (d := 4) Try.underlying4 h1
  obtain ⟨l, rfl, hl⟩ := ty_row (d := 3) Try.underlying28 Try.underlying76 h2
  exact ⟨b, l, rfl, WB_wf hl⟩
set_option maxRecDepth 100000 in
theorem tyX {xs : List AV} (h : TyL Try.prog 7 46 xs) : ∃ (b : Bool) (l m : List Int), xs = [.bool b, rowI .u32 l, rowI .u32 m] ∧ WB 4294967296 l ∧ WB 4294967296 m := by
  obtain ⟨ys, zs, rfl, h1, ys2, zs2, rfl, h2, rfl⟩ := ty_struct (d := 6) Try.underlying46 h
  obtain ⟨b, l, rfl, w⟩ := tyI h1
  obtain ⟨m, rfl, hm⟩ := ty_row (d := 4) Try.underlying28 Try.underlying76 h2
  exact ⟨b, l, m, rfl, w, WB_wf hm⟩
set_option maxRecDepth 100000 in
theorem tyS {xs : List AV} (h : TyL Try.prog 8 55 xs) : ∃ p : RS, xs = cellsS p ∧ wbS p := by
  obtain ⟨ys, zs, rfl, h1, ys2, zs2, rfl, h2, rfl⟩ := ty_struct (d := 7) Try.underlying55 h
  obtain ⟨b, l, m, rfl, w1, w2⟩ := tyX h1
  obtain ⟨c, p, q, rfl, w3, w4⟩ := tyX h2
  exact ⟨((b, l, m), c, p, q), rfl, ⟨w1, w2⟩, w3, w4⟩
theorem spots_of : ∀ {l : List (List AV)}, (∀ ys ∈ l, ∃ p : RS, ys = cellsS p ∧ wbS p) → ∃ r : List RS, l.length = r.length ∧ l.flatten = r.flatMap cellsS ∧ ∀ p ∈ r, wbS p
  | [], _ => ⟨[], rfl, rfl, fun _ h => by cases h⟩
  | y :: l, h => by
    obtain ⟨p, rfl, hp⟩ := h y (by simp)
    obtain ⟨r, e1, e2, e3⟩ := spots_of (l := l) (fun ys hy => h ys (by simp [hy]))
    exact ⟨p :: r, by simp [e1], by rw [List.flatten_cons, e2, List.flatMap_cons], fun q hq => by rcases List.mem_cons.1 hq with k | k; exact k ▸ hp; exact e3 q k⟩
set_option maxRecDepth 100000 in
theorem tyF {x : AV} (h : TyL Try.prog 9 42 [x]) : ∃ r : List RS, x = rowS r ∧ ∀ p ∈ r, wbS p := by
  obtain ⟨l, e, _, hl⟩ := ty_slice (d := 8) Try.underlying42 h
  obtain ⟨r, e1, e2, e3⟩ := spots_of (l := l) (fun ys hy => tyS (hl ys hy).2)
  simp only [List.cons.injEq, and_true] at e
  exact ⟨r, by rw [e, e1, e2]; rfl, e3⟩
set_option maxRecDepth 100000 in
theorem lifted (os : Os) (started : os.Started) (H : Type) (enc : TypeId × Value → H) :
    ReturnsInHanded {} Try.checked os 8 .any (Rows.polyTurnsSpec.pre6 enc Try.prog Try.f8 Rows.polyTurnsRow.domain false) (Rows.polyTurnsSpec.post enc Try.prog Try.f8 false true false false) := by
  refine returnsInHanded_of_change_sized (C := Try.checked) own started (by kernel_rfl) Try.func8
    (ChangeSpec.witness6 (enc := enc) (C := Try.checked) false ⟨#[], #[.slice none 0 0, .int .u8 0], []⟩ 8 (by kernel_rfl) (by kernel_rfl) (by kernel_rfl) (by kernel_rfl)) ?_
  intro W base args ds gs before hval0 hW hcnd _ _
  have hval : ∀ (j : Nat) t v, Try.f8.params[j]? = some t → args[j]? = some v → Value.okWide Try.prog W .any base t v := hval0
  have hW' := hW
  obtain ⟨p, q, hA0, hV, rfl, hfz, hnd⟩ := hW
  have hA : DataW.TrodAll enc Try.prog W 0 (fun _ => true) true Try.f8.params.toList args.toList ds p := hA0
  rw [Try.params8] at hA hval
  obtain ⟨v0, vs0, d0, ds0, p0, q0, hargs, rfl, rfl, h0, r0⟩ := trodAll_cons hA
  obtain ⟨v1, vs1, d1, ds1, p1, q1, rfl, rfl, rfl, h1, r1⟩ := trodAll_cons r0
  obtain ⟨rfl, rfl, rfl⟩ := trodAll_nil r1
  obtain rfl : args = #[v0, v1] := by cases args; simp_all
  obtain ⟨rfl, rfl⟩ := trodVars_none hV
  have k0 := h0
  have lt0 : ∀ x ∈ p0, x.block < W.heap.size := by obtain ⟨m, hm⟩ := k0; exact DataW.trod_lt m _ _ _ hm
  obtain ⟨sa0, sl0, sc0, rfl⟩ := okWide_slice Try.underlying42 (hval 0 42 v0 rfl rfl)
  obtain ⟨x0, e0, ty0⟩ := open_one (n := 9) rfl h0 (by kernel_rfl : plainT Try.prog 9 42 = true) (by kernel_rfl)
  obtain ⟨fr0, rfl, wr0⟩ := tyF ty0
  skip
  have k1 := h1
  have lt1 : ∀ x ∈ p1, x.block < W.heap.size := by obtain ⟨m, hm⟩ := k1; exact DataW.trod_lt m _ _ _ hm
  obtain ⟨n1, rfl⟩ := okWide_int Try.underlying5 (hval 1 5 v1 rfl rfl)
  obtain ⟨x1, e1, ty1⟩ := open_one (n := 2) rfl h1 (by kernel_rfl : plainT Try.prog 2 5 = true) (by kernel_rfl)
  obtain ⟨a1, ea1, wa1⟩ := ty_int (d := 1) Try.underlying5 ty1
  simp only [List.cons.injEq, and_true] at ea1
  subst ea1
  have wa1 : 0 ≤ a1 ∧ a1 < 256 := by
    simp only [Lit.wf, IntKind.min, IntKind.max, IntKind.signed, IntKind.bits, Bool.and_eq_true, decide_eq_true_eq] at wa1
    simp at wa1
    omega
  clear hA0 hval0
  refine ((law_PolyTurns fr0 wr0 a1 wa1).2 (Old W) W [_, _] (fun b h => h) (LR.cons (show V2 none' (Old W) W _ _ from e0.v1.v2) (LR.cons (show V2 none' (Old W) W _ _ from e1.v1.v2) LR.nil))).mono fun e W' ⟨v, S', he, hv, X⟩ => ?_
  have hv2 : v = .bool true := by simpa only [V3, V2, V1, P1] using hv
  subst hv2
  have bel := X.below
  subst he
  exact ⟨_, rfl, _, _, _, [], _, [], hW', trodAll_mk1 (shut_bool Try.underlying4 _), (trodAll_cons_mk (Below.trod laidOut (by kernel_rfl) (of_decide_eq_true (by kernel_rfl)) k0 bel lt0) (trodAll_cons_mk (Below.trod laidOut (by kernel_rfl) (of_decide_eq_true (by kernel_rfl)) k1 bel lt1) trodAll_mk0)), rfl, bel.frame _, fun h => by cases h⟩
theorem over : Rows.polyTurnsRow.holds Try.pinned (OpenSpec.ofChange Rows.polyTurnsSpec) :=
  OpenClaim.holds_of_wide 8 Try.f8 rfl rfl rfl rfl rfl rfl rfl ⟨rfl, rfl, rfl, rfl, rfl⟩ rfl rfl rfl rfl rfl (by kernel_rfl) Try.func8 (by kernel_rfl)
    (of_decide_eq_true (by kernel_rfl)) (by unfold Func.isWrapper; first | (rw [if_pos (by decide +kernel)]; kernel_rfl) | (rw [if_neg (by decide +kernel)]; exact ⟨rfl, rfl⟩))
    (fun os started H enc _ => lifted os started H enc)
theorem proved : Rows.PolyTurnsSaid := over
#print axioms proved
end Go.Proofs.Ytofklpmlgfbmlaa.polyTurns
namespace Go.Proofs.Ytofklpmlgfbmlaa
/-- The row, under a short name, for the claim. -/
theorem polyTurns_holds : Rows.PolyTurnsSaid := polyTurns.proved
end Go.Proofs.Ytofklpmlgfbmlaa
