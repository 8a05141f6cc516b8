/- Walks by the abstract run: the reference of polygons; texts of numbers. -/
import Derived.Test.YtofklpmlgfbmlaaC10
import Derived.Test.YtofklpmlgfbmlaaC2
import Derived.Test.YtofklpmlgfbmlaaC7
import Derived.Test.YtofklpmlgfbmlaaC8
import Derived.Test.YtofklpmlgfbmlaaC9
set_option linter.unusedVariables false
set_option linter.unusedSimpArgs false
namespace Go.Proofs.Ytofklpmlgfbmlaa.ZRat
open Go.RowKit Go.Proofs.Ytofklpmlgfbmlaa.Wd
open Go Go.Proofs.Ytofklpmlgfbmlaa.Ab Go.Proofs Go.Proofs.Ytofklpmlgfbmlaa.Num Go.Proofs.Ytofklpmlgfbmlaa.ZRatP
set_option linter.unusedSimpArgs false
set_option linter.unusedVariables false
set_option maxHeartbeats 8000000
set_option maxRecDepth 100000
/-- The reference's spot, of numbers and what they are over. -/
def spotRA (n d m e : Int) : AV := .agg [.int .i64 n.sign, digA n.natAbs, .int .i64 d.sign, digA d.natAbs, .int .i64 m.sign, digA m.natAbs, .int .i64 e.sign, digA e.natAbs]
noncomputable def spotRD (L : Nat) : AV → Option ((Int × Int) × Int × Int)
  | .agg [a, b, c, d, e, f, g, h] => (rratD L (.agg [a, b, c, d])).bind fun p => (rratD L (.agg [e, f, g, h])).map fun q => (p, q)
  | _ => none
theorem spotRD_out {L : Nat} {x : AV} {n d m e : Int} (h : spotRD L x = some ((n, d), (m, e))) : x = spotRA n d m e ∧ ((NB 65536 n.natAbs).length ≤ L ∧ (NB 65536 d.natAbs).length ≤ L) ∧ (NB 65536 m.natAbs).length ≤ L ∧ (NB 65536 e.natAbs).length ≤ L := by
  unfold spotRD at h
  split at h
  · obtain ⟨p, hp, h⟩ := Option.bind_eq_some_iff.1 h
    obtain ⟨q, hq, h⟩ := Option.map_eq_some_iff.1 h
    simp only [Prod.mk.injEq] at h
    obtain ⟨rfl, rfl⟩ := h
    obtain ⟨e1, b1, c1⟩ := rratD_out hp
    obtain ⟨e2, b2, c2⟩ := rratD_out hq
    unfold rratA at e1 e2
    simp only [AV.agg.injEq, List.cons.injEq, and_true] at e1 e2
    obtain ⟨rfl, rfl, rfl, rfl⟩ := e1
    obtain ⟨rfl, rfl, rfl, rfl⟩ := e2
    exact ⟨rfl, ⟨b1, c1⟩, b2, c2⟩
  · cases h
attribute [simp] spotRA spotRD
section
variable {E : Env} {R : Type} {rs : Out → AS → Option R} {base : Nat} {k : List Todo} {r : R}
theorem loop_up {a : Code} (C : Nat → AS) (N : Nat) {s : AS} (h0 : canon base (E.keep (firstR a)) s = C 0) (hs : ∀ i, i < N → AEnds E rs base (.code a :: .again a :: k) (C (i + 1)) r → AEnds E rs base (.code a :: .again a :: k) (C i) r) (hN : AEnds E rs base (.code a :: .again a :: k) (C N) r) : AEnds E rs base (.code (.loop a) :: k) s r := by
  refine .loop ?_
  rw [h0]
  have : ∀ j, j ≤ N → AEnds E rs base (.code a :: .again a :: k) (C (N - j)) r := by
    intro j
    induction j with
    | zero => intro _; exact hN
    | succ j ih =>
      intro hj
      refine hs _ (by omega) ?_
      rw [show N - (j + 1) + 1 = N - j by omega]
      exact ih (by omega)
  simpa using this N (Nat.le_refl N)
theorem again_of {a : Code} {s c : AS} (e : canon base (E.keep (firstR a)) s = c) (h : AEnds E rs base (.code a :: .again a :: k) c r) : AEnds E rs base (.again a :: k) s r := .again (e ▸ h)
end
theorem rlit (z : Int) {L : Nat} (h : (NB 65536 z.natAbs).length ≤ L) : rintC L (.int .i64 z.sign) (.row (NB 65536 z.natAbs).length ((NB 65536 z.natAbs).map (.int .i64))) = some z := by
  have e : z.sign * (z.natAbs : Int) = z := Int.sign_mul_natAbs z
  rw [rintC_row rfl h (by rw [e]) (by rw [e]), e]
theorem rden (n : Nat) {L : Nat} (h : (NB 65536 n).length ≤ L) : rintC L (.int .i64 ((n : Int).sign)) (.row (NB 65536 n).length ((NB 65536 n).map (.int .i64))) = some (n : Int) := rlit (n : Int) h
theorem den_ne (q : Rat) : ((q.den : Int) = 0) = False := eq_false (by have := q.den_nz; omega)
theorem den_pos' (q : Rat) : (0 < (q.den : Int)) = True := eq_true (by have := q.den_pos; omega)
theorem rDne (d : Nat) : (rD d = 0) = False := eq_false (rD_ne d)
theorem mkSelf (q : Rat) : mkRat q.num (q.den : Int).natAbs = q := by rw [Int.natAbs_natCast]; exact Rat.mkRat_self q
def cellsF (q : Rat) : List AV := [.int .i64 q.num.sign, digA q.num.natAbs, .int .i64 (q.den : Int).sign, digA (q.den : Int).natAbs]
theorem flat_sub {α : Type} {c : α → List AV} {n : Nat} (hn : ∀ p, (c p).length = n) {l : List α} {i : Nat} {x : α} (h : l[i]? = some x) (j m : Nat) (hj : j + m ≤ n) : ((l.flatMap c).drop (i * n + j)).take m = ((c x).drop j).take m := by
  rw [← flat_get hn l i x h, ← List.drop_drop, List.drop_take, List.take_take, Nat.min_eq_left (by omega)]
theorem pAt_get {l : List P2} {i : Nat} (h : i < l.length) : l[i]? = some (pAt l i) := by
  rw [pAt, List.getD_eq_getElem?_getD, List.getElem?_eq_getElem h]; rfl
theorem chunkR {l : List P2} {i : Nat} (h : i < l.length) : ((l.flatMap cellsR).drop (i * 8)).take 8 = cellsR (pAt l i) := flat_get (c := cellsR) (n := 8) (fun _ => rfl) l i _ (pAt_get h)
theorem chunkX {l : List P2} {i : Nat} (h : i < l.length) : ((l.flatMap cellsR).drop (i * 8)).take 4 = cellsF (pAt l i).1 := flat_sub (c := cellsR) (n := 8) (fun _ => rfl) (pAt_get h) 0 4 (by omega)
theorem chunkY {l : List P2} {i : Nat} (h : i < l.length) : ((l.flatMap cellsR).drop (i * 8 + 4)).take 4 = cellsF (pAt l i).2 := flat_sub (c := cellsR) (n := 8) (fun _ => rfl) (pAt_get h) 4 4 (by omega)
theorem lenR (l : List P2) : (l.flatMap cellsR).length = l.length * 8 := flat_len (c := cellsR) (n := 8) (fun _ => rfl) l
theorem lenS (l : List RS) : (l.flatMap cellsS).length = l.length * 6 := flat_len (c := cellsS) (n := 6) (fun _ => rfl) l
theorem mulP {a b : Int} (ha : 0 < a) (hb : 0 < b) : 0 < a * b := Int.mul_pos ha hb
theorem tri_eq {an ad am ae bn bd bm be cn cd cm ce : Int} (h1 : 0 < ad) (h2 : 0 < ae) (h3 : 0 < bd) (h4 : 0 < be) (h5 : 0 < cd) (h6 : 0 < ce) :
    mkRat ((bn * ad + -an * bd) * (cm * ae + -am * ce) * (be * ae * (cd * ad)) + -((bm * ae + -am * be) * (cn * ad + -an * cd)) * (bd * ad * (ce * ae))) (bd * ad * (ce * ae) * (be * ae * (cd * ad))).natAbs = tri (mkRat an ad.natAbs, mkRat am ae.natAbs) (mkRat bn bd.natAbs, mkRat bm be.natAbs) (mkRat cn cd.natAbs, mkRat cm ce.natAbs) := by
  rw [subE (mulP (mulP h3 h1) (mulP h6 h2)) (mulP (mulP h4 h2) (mulP h5 h1)), mulE, mulE, subE h3 h1, subE h6 h2, subE h4 h2, subE h5 h1]
  rfl
theorem mean_eq {an ad bn bd cn cd : Int} (h1 : 0 < ad) (h2 : 0 < bd) (h3 : 0 < cd) : mkRat ((an * bd + bn * ad) * cd + cn * (ad * bd)) (ad * bd * cd).natAbs = mkRat an ad.natAbs + mkRat bn bd.natAbs + mkRat cn cd.natAbs := by
  rw [addE (mulP h1 h2) h3, addE h1 h2]
noncomputable def GOf : List AV → Option AV
  | [x0] => (spD 9 x0).bind fun a0 => some (.agg (cellsR (mkRat a0.1.1 a0.1.2, mkRat a0.2.1 a0.2.2)))
  | _ => none
noncomputable def E_GOf : Env := mkS [(32, FOf), (50, FLow)] [] []
theorem run_GOf (s0 : Bool) (l0 m0 : List Int) (t0 : Bool) (p0 q0 : List Int) (wl0 : WB 4294967296 l0) (bl0 : l0.length ≤ 9) (wm0 : WB 4294967296 m0) (bm0 : m0.length ≤ 9) (wp0 : WB 4294967296 p0) (bp0 : p0.length ≤ 9) (wq0 : WB 4294967296 q0) (bq0 : q0.length ≤ 9) : AEnds E_GOf (finW Try.prog Try.f29.results) 0 [.code (Try.f29.body.getD .skip)] (startA Try.f29 [.agg [.bool s0, rowI .u32 l0, rowI .u32 m0, .bool t0, rowI .u32 p0, rowI .u32 q0]] [] []) (.agg (cellsR (mkRat (IVal s0 l0) (VB 4294967296 m0), mkRat (IVal t0 p0) (VB 4294967296 q0)))) := by
  haveI := SzI.val (neg := s0) wl0 bl0
  haveI := SzN.val wm0 bm0
  haveI := SzI.val (neg := t0) wp0 bp0
  haveI := SzN.val wq0 bq0
  simp only [Try.f29, Option.getD_some, startA]
  unfold cellsR
  simp (maxSteps := 4000000) (disch := (first | with_reducible rfl | assumption | with_reducible exact WB_NB _ _ | (with_reducible refine nb_le ?_; omega) | (with_reducible refine nb16_le ?_; omega) | omega | (simp only [List.length_append, List.length_map, List.length_cons, List.length_nil, List.length_set, List.length_replicate, List.length_take, List.size_toArray]; omega))) [E_GOf, rDne, canonE, -Int.sign_mul, -Int.sign_neg, -Int.natAbs_neg]
theorem sGOf : GoodS (29, GOf) := by
  intro xs r h
  simp only at h
  unfold GOf at h
  split at h
  · obtain ⟨a0, h0, h⟩ := Option.bind_eq_some_iff.1 h
    cases h
    obtain ⟨s0, l0, m0, t0, p0, q0, rfl, wl0, bl0, wm0, bm0, wp0, bp0, wq0, bq0, rfl⟩ := spD_out h0
    exact .inl <| okW_ends (mkS_ok (alls_cons sFOf (alls_cons sFLow alls_nil))) mixed Try.func29 rfl (by kernel_rfl : Fits Try.prog E_GOf.ref E_GOf.dep Try.f29 = true) (run_GOf _ _ _ _ _ _ wl0 bl0 wm0 bm0 wp0 bp0 wq0 bq0)
  · cases h
attribute [simp] GOf
noncomputable def GTri : List AV → Option AV
  | [x0, x1, x2] => (spotRD 1000 x0).bind fun a0 => (spotRD 1000 x1).bind fun a1 => (spotRD 1000 x2).bind fun a2 => if 0 < a0.1.2 ∧ 0 < a0.2.2 ∧ 0 < a1.1.2 ∧ 0 < a1.2.2 ∧ 0 < a2.1.2 ∧ 0 < a2.2.2 then some (rratA (tri (mkRat a0.1.1 a0.1.2.natAbs, mkRat a0.2.1 a0.2.2.natAbs) (mkRat a1.1.1 a1.1.2.natAbs, mkRat a1.2.1 a1.2.2.natAbs) (mkRat a2.1.1 a2.1.2.natAbs, mkRat a2.2.1 a2.2.2.natAbs)).num (tri (mkRat a0.1.1 a0.1.2.natAbs, mkRat a0.2.1 a0.2.2.natAbs) (mkRat a1.1.1 a1.1.2.natAbs, mkRat a1.2.1 a1.2.2.natAbs) (mkRat a2.1.1 a2.1.2.natAbs, mkRat a2.2.1 a2.2.2.natAbs)).den) else none
  | _ => none
noncomputable def E_GTri : Env := mkS [(85, FSub), (63, FMul), (50, FLow)] [] [(1, [([], [], false), ([], [], false), ([], [], false), ([], [], false), ([], [], false), ([], [], false), ([], [], false), ([], [], false), ([], [], false), ([], [], false), ([], [], false), ([], [], false), ([], [], false), ([], [], false), ([], [], false), ([], [], false), ([], [], false), ([], [], false), ([], [], false), ([], [], false), ([], [], false), ([], [], false), ([], [], false), ([], [], false), ([0, 1], [], false), ([0, 1], [], false)])]
theorem run_GTri (n0 d0 m0 e0 : Int) (b0 : ((NB 65536 n0.natAbs).length ≤ 1000 ∧ (NB 65536 d0.natAbs).length ≤ 1000) ∧ (NB 65536 m0.natAbs).length ≤ 1000 ∧ (NB 65536 e0.natAbs).length ≤ 1000) (n1 d1 m1 e1 : Int) (b1 : ((NB 65536 n1.natAbs).length ≤ 1000 ∧ (NB 65536 d1.natAbs).length ≤ 1000) ∧ (NB 65536 m1.natAbs).length ≤ 1000 ∧ (NB 65536 e1.natAbs).length ≤ 1000) (n2 d2 m2 e2 : Int) (b2 : ((NB 65536 n2.natAbs).length ≤ 1000 ∧ (NB 65536 d2.natAbs).length ≤ 1000) ∧ (NB 65536 m2.natAbs).length ≤ 1000 ∧ (NB 65536 e2.natAbs).length ≤ 1000) (hc : 0 < d0 ∧ 0 < e0 ∧ 0 < d1 ∧ 0 < e1 ∧ 0 < d2 ∧ 0 < e2) : AEnds E_GTri (finW Try.prog Try.f52.results) 0 [.code (Try.f52.body.getD .skip)] (startA Try.f52 [spotRA n0 d0 m0 e0, spotRA n1 d1 m1 e1, spotRA n2 d2 m2 e2] [] []) (rratA (tri (mkRat n0 d0.natAbs, mkRat m0 e0.natAbs) (mkRat n1 d1.natAbs, mkRat m1 e1.natAbs) (mkRat n2 d2.natAbs, mkRat m2 e2.natAbs)).num (tri (mkRat n0 d0.natAbs, mkRat m0 e0.natAbs) (mkRat n1 d1.natAbs, mkRat m1 e1.natAbs) (mkRat n2 d2.natAbs, mkRat m2 e2.natAbs)).den) := by
  haveI := SzI.dig b0.1.1
  haveI := SzI.dig b0.1.2
  haveI := SzI.dig b0.2.1
  haveI := SzI.dig b0.2.2
  haveI := SzI.dig b1.1.1
  haveI := SzI.dig b1.1.2
  haveI := SzI.dig b1.2.1
  haveI := SzI.dig b1.2.2
  haveI := SzI.dig b2.1.1
  haveI := SzI.dig b2.1.2
  haveI := SzI.dig b2.2.1
  haveI := SzI.dig b2.2.2
  simp only [Try.f52, Option.getD_some, startA]
  obtain ⟨h1, h2, h3, h4, h5, h6⟩ := hc
  have ht := tri_eq (an := n0) (am := m0) (bn := n1) (bm := m1) (cn := n2) (cm := m2) h1 h2 h3 h4 h5 h6
  generalize tri (mkRat n0 d0.natAbs, mkRat m0 e0.natAbs) (mkRat n1 d1.natAbs, mkRat m1 e1.natAbs) (mkRat n2 d2.natAbs, mkRat m2 e2.natAbs) = t at *
  have hd : ∀ a b : Int, 0 < a → 0 < b → ¬ a = 0 ∧ ¬ b = 0 := fun a b h k => ⟨by omega, by omega⟩
  have g1 := hd _ _ h1 h2
  have g2 := hd _ _ h3 h4
  have g3 := hd _ _ h5 h6
  clear hd
  simp (maxSteps := 4000000) (disch := (first | with_reducible rfl | assumption | with_reducible exact WB_NB _ _ | (with_reducible refine nb_le ?_; omega) | (with_reducible refine nb16_le ?_; omega) | omega | (simp only [List.length_append, List.length_map, List.length_cons, List.length_nil, List.length_set, List.length_replicate, List.length_take, List.size_toArray]; omega))) [E_GTri, ht, g1, g2, g3, Int.mul_eq_zero, -Int.sign_mul, -Int.sign_neg, -Int.natAbs_neg]
theorem sGTri : GoodS (52, GTri) := by
  intro xs r h
  simp only at h
  unfold GTri at h
  split at h
  · obtain ⟨a0, h0, h⟩ := Option.bind_eq_some_iff.1 h
    obtain ⟨a1, h1, h⟩ := Option.bind_eq_some_iff.1 h
    obtain ⟨a2, h2, h⟩ := Option.bind_eq_some_iff.1 h
    split at h
    · rename_i hc
      cases h
      (obtain ⟨⟨n0, d0⟩, m0, e0⟩ := a0); (obtain ⟨rfl, b0⟩ := spotRD_out h0)
      (obtain ⟨⟨n1, d1⟩, m1, e1⟩ := a1); (obtain ⟨rfl, b1⟩ := spotRD_out h1)
      (obtain ⟨⟨n2, d2⟩, m2, e2⟩ := a2); (obtain ⟨rfl, b2⟩ := spotRD_out h2)
      exact .inl <| okW_ends (mkS_ok (alls_cons sFSub (alls_cons sFMul (alls_cons sFLow alls_nil)))) mixed Try.func52 rfl (by kernel_rfl : Fits Try.prog E_GTri.ref E_GTri.dep Try.f52 = true) (run_GTri _ _ _ _ b0 _ _ _ _ b1 _ _ _ _ b2 hc)
    · cases h
  · cases h
attribute [simp] GTri
noncomputable def Gmean : List AV → Option AV
  | [x0, x1, x2] => (rratD 1000 x0).bind fun a0 => (rratD 1000 x1).bind fun a1 => (rratD 1000 x2).bind fun a2 => if 0 < a0.2 ∧ 0 < a1.2 ∧ 0 < a2.2 then some (rratA (mkRat a0.1 a0.2.natAbs + mkRat a1.1 a1.2.natAbs + mkRat a2.1 a2.2.natAbs).num ((mkRat a0.1 a0.2.natAbs + mkRat a1.1 a1.2.natAbs + mkRat a2.1 a2.2.natAbs).den * 3)) else none
  | _ => none
noncomputable def E_Gmean : Env := mkS [(33, FAdd), (50, FLow), (13, ZLong), (63, FMul)] [] []
theorem run_Gmean (n0 d0 : Int) (b0 : (NB 65536 n0.natAbs).length ≤ 1000) (c0 : (NB 65536 d0.natAbs).length ≤ 1000) (n1 d1 : Int) (b1 : (NB 65536 n1.natAbs).length ≤ 1000) (c1 : (NB 65536 d1.natAbs).length ≤ 1000) (n2 d2 : Int) (b2 : (NB 65536 n2.natAbs).length ≤ 1000) (c2 : (NB 65536 d2.natAbs).length ≤ 1000) (hc : 0 < d0 ∧ 0 < d1 ∧ 0 < d2) : AEnds E_Gmean (finW Try.prog Try.f64.results) 0 [.code (Try.f64.body.getD .skip)] (startA Try.f64 [rratA n0 d0, rratA n1 d1, rratA n2 d2] [] []) (rratA (mkRat n0 d0.natAbs + mkRat n1 d1.natAbs + mkRat n2 d2.natAbs).num ((mkRat n0 d0.natAbs + mkRat n1 d1.natAbs + mkRat n2 d2.natAbs).den * 3)) := by
  haveI := SzI.dig b0
  haveI := SzI.dig c0
  haveI := SzI.dig b1
  haveI := SzI.dig c1
  haveI := SzI.dig b2
  haveI := SzI.dig c2
  simp only [Try.f64, Option.getD_some, startA]
  obtain ⟨h1, h2, h3⟩ := hc
  have ht := mean_eq (an := n0) (bn := n1) (cn := n2) h1 h2 h3
  haveI hz : SzQ (mkRat n0 d0.natAbs + mkRat n1 d1.natAbs + mkRat n2 d2.natAbs) 6005 := by
    have h : SzQ (mkRat n0 d0.natAbs + mkRat n1 d1.natAbs + mkRat n2 d2.natAbs) _ := inferInstance
    exact h.up (by decide)
  generalize mkRat n0 d0.natAbs + mkRat n1 d1.natAbs + mkRat n2 d2.natAbs = t at *
  have g1 : ¬ d0 = 0 := by omega
  have g2 : ¬ d1 = 0 := by omega
  have g3 : ¬ d2 = 0 := by omega
  simp (maxSteps := 4000000) (disch := (first | with_reducible rfl | assumption | with_reducible exact WB_NB _ _ | (with_reducible refine nb_le ?_; omega) | (with_reducible refine nb16_le ?_; omega) | omega | (simp only [List.length_append, List.length_map, List.length_cons, List.length_nil, List.length_set, List.length_replicate, List.length_take, List.size_toArray]; omega))) [E_Gmean, ht, g1, g2, g3, rden, Int.mul_eq_zero, -Int.sign_mul, -Int.sign_neg, -Int.natAbs_neg]
theorem sGmean : GoodS (64, Gmean) := by
  intro xs r h
  simp only at h
  unfold Gmean at h
  split at h
  · obtain ⟨a0, h0, h⟩ := Option.bind_eq_some_iff.1 h
    obtain ⟨a1, h1, h⟩ := Option.bind_eq_some_iff.1 h
    obtain ⟨a2, h2, h⟩ := Option.bind_eq_some_iff.1 h
    split at h
    · rename_i hc
      cases h
      obtain ⟨rfl, b0, c0⟩ := rratD_out h0
      obtain ⟨rfl, b1, c1⟩ := rratD_out h1
      obtain ⟨rfl, b2, c2⟩ := rratD_out h2
      exact .inl <| okW_ends (mkS_ok (alls_cons sFAdd (alls_cons sFLow (alls_cons sZLong (alls_cons sFMul alls_nil))))) mixed Try.func64 rfl (by kernel_rfl : Fits Try.prog E_Gmean.ref E_Gmean.dep Try.f64 = true) (run_Gmean _ _ b0 c0 _ _ b1 c1 _ _ b2 c2 hc)
    · cases h
  · cases h
attribute [simp] Gmean
end Go.Proofs.Ytofklpmlgfbmlaa.ZRat
namespace Go.Proofs.Ytofklpmlgfbmlaa.ZRat
open Go.RowKit Go.Proofs.Ytofklpmlgfbmlaa.Wd
open Go Go.Proofs.Ytofklpmlgfbmlaa.Ab Go.Proofs Go.Proofs.Ytofklpmlgfbmlaa.Num Go.Proofs.Ytofklpmlgfbmlaa.ZRatP
set_option linter.unusedSimpArgs false
set_option linter.unusedVariables false
set_option maxHeartbeats 8000000
set_option maxRecDepth 100000
theorem all_next (l : List RS) {i : Nat} (hi : i < l.length) : ((l.map valS).take (i + 1)).flatMap cellsR = ((l.map valS).take i).flatMap cellsR ++ cellsR (valS (sAt l i)) := by
  have h : (l.map valS)[i]? = some (valS (sAt l i)) := by
    rw [List.getElem?_map, sAt, List.getD_eq_getElem?_getD, List.getElem?_eq_getElem hi]; rfl
  rw [List.take_add_one, List.flatMap_append, h]; simp
theorem okP_at {L : Nat} {g : List P2} (h : ∀ p ∈ g, okP L p) {i : Nat} (hi : i < g.length) : okP L (pAt g i) := by
  rw [pAt, List.getD_eq_getElem?_getD, List.getElem?_eq_getElem hi]; exact h _ (List.getElem_mem hi)
theorem ref_sz {t : P2 → P2 → P2 → Rat} {g : List P2} {m L : Nat} (ht : ∀ a b c, okP L a → okP L b → okP L c → SzQ (t a b c) m) (h : ∀ p ∈ g, okP L p) : ∀ k, k + 1 < g.length ∨ k = 0 → SzQ (refT t g k) ((m + 1) * k + 1)
  | 0, _ => by rw [refT, Nat.mul_zero, Nat.zero_add]; infer_instance
  | k + 1, hk => by
    haveI := ref_sz ht h k (by omega)
    haveI := ht _ _ _ (okP_at h (show 0 < g.length by omega)) (okP_at h (show k + 1 < g.length by omega)) (okP_at h (show k + 2 < g.length by omega))
    have e : (m + 1) * (k + 1) + 1 = (m + 1) * k + 1 + m + 1 := by rw [Nat.mul_add]; omega
    rw [refT, e]; infer_instance
theorem tri_sz {L : Nat} {a b c : P2} (ha : okP L a) (hb : okP L b) (hc : okP L c) : SzQ (tri a b c) (L + L + 1 + (L + L + 1) + (L + L + 1 + (L + L + 1)) + 1) := by
  obtain ⟨i1, i2⟩ := ha
  obtain ⟨i3, i4⟩ := hb
  obtain ⟨i5, i6⟩ := hc
  unfold tri
  infer_instance
theorem w64s {z : Int} (h : 0 ≤ z ∧ z ≤ 100) : wrap64 z = z := w64in _ (by omega) (by omega)
noncomputable def GAll : List AV → Option AV
  | [x0] => (rowSD 9 8 x0).bind fun a0 => some (rowR (a0.map valS))
  | _ => none
noncomputable def E_GAll : Env := mkS [(29, GOf)] [(3, [0, 3, 4])] []
theorem run_GAll (r0 : List RS) (b0 : ∀ p ∈ r0, okS 9 p) (c0 : r0.length ≤ 8) : AEnds E_GAll (finW Try.prog Try.f21.results) 0 [.code (Try.f21.body.getD .skip)] (startA Try.f21 [rowS r0] [] []) (rowR (r0.map valS)) := by
  simp only [Try.f21, Option.getD_some, startA]
  unfold rowS rowR
  simp (maxSteps := 4000000) (disch := (first | with_reducible rfl | assumption | with_reducible exact WB_NB _ _ | (with_reducible refine nb_le ?_; omega) | (with_reducible refine nb16_le ?_; omega) | omega | (simp only [List.length_append, List.length_map, List.length_cons, List.length_nil, List.length_set, List.length_replicate, List.length_take, List.size_toArray]; omega))) [E_GAll]
  let C : Nat → AS := fun i => ⟨[.row r0.length (r0.flatMap cellsS), .any, .any, .own 0 0 i 8, .int .i64 i, .any, .any, .any, .any, .any, .any, .any, .any, .any, .any, .any, .any, .any, .any, .any, .any], [.arr (((r0.map valS).take i).flatMap cellsR)], [false]⟩
  refine loop_up C r0.length ?_ (fun i hi IH => ?_) ?_
  · simp only [E_GAll, firstR, mkS_keep, mkQ_keep, keepT, List.find?, Nat.reduceBEq, Option.map_some, Option.getD_some]
    simp (maxSteps := 4000000) (disch := (first | with_reducible rfl | assumption | with_reducible exact WB_NB _ _ | (with_reducible refine nb_le ?_; omega) | (with_reducible refine nb16_le ?_; omega) | omega | (simp only [List.length_append, List.length_map, List.length_cons, List.length_nil, List.length_set, List.length_replicate, List.length_take, List.size_toArray]; omega))) [E_GAll, C]
  · have hn := all_next r0 hi
    have o1 := sAt_ok b0 hi
    have hk := chunkS hi
    have hl := lenS r0
    have hw : wrap64 ((i : Int) + 1) = (i : Int) + 1 := w64s (by omega)
    have hi' : (i : Int) < (r0.length : Int) := by omega
    have h6 : i * 6 + 6 ≤ r0.length * 6 := by omega
    simp only [C] at IH ⊢
    rw [hn] at IH
    have lP : (((r0.map valS).take i).flatMap cellsR).length = i * 8 := by rw [lenR, List.length_take, List.length_map, Nat.min_eq_left (by omega)]
    generalize ((r0.map valS).take i).flatMap cellsR = P at *
    have tP : P.take (i * 8) = P := List.take_of_length_le (by omega)
    generalize r0.flatMap cellsS = Q at *
    generalize r0.length = n at *
    clear C hn
    generalize sAt r0 i = u at *
    obtain ⟨⟨s, l, m⟩, t, p, q⟩ := u
    obtain ⟨⟨⟨wa, xa⟩, wb, xb⟩, ⟨wc, xc⟩, wd, xd⟩ := o1
    simp only at wa xa wb xb wc xc wd xd
    haveI := SzI.val (neg := s) wa xa
    haveI := SzN.val wb xb
    haveI := SzI.val (neg := t) wc xc
    haveI := SzN.val wd xd
    simp only [cellsS] at hk
    simp only [valS, valQ] at IH
    simp (maxSteps := 4000000) (disch := (first | with_reducible rfl | assumption | with_reducible exact WB_NB _ _ | (with_reducible refine nb_le ?_; omega) | (with_reducible refine nb16_le ?_; omega) | omega | (simp only [List.length_append, List.length_map, List.length_cons, List.length_nil, List.length_set, List.length_replicate, List.length_take, List.size_toArray]; omega))) [E_GAll, hk, hl, hw, hi', h6, lP, tP, cellsR]
    refine again_of ?_ IH
    simp only [E_GAll, firstR, mkS_keep, mkQ_keep, keepT, List.find?, Nat.reduceBEq, Option.map_some, Option.getD_some]
    simp (maxSteps := 4000000) (disch := (first | with_reducible rfl | assumption | with_reducible exact WB_NB _ _ | (with_reducible refine nb_le ?_; omega) | (with_reducible refine nb16_le ?_; omega) | omega | (simp only [List.length_append, List.length_map, List.length_cons, List.length_nil, List.length_set, List.length_replicate, List.length_take, List.size_toArray]; omega))) [E_GAll, cellsR]
  · have ht : (r0.map valS).take r0.length = r0.map valS := List.take_of_length_le (by simp)
    have lZ : ((r0.map valS).flatMap cellsR).length = r0.length * 8 := by rw [lenR, List.length_map]
    simp only [C, ht]
    generalize (r0.map valS).flatMap cellsR = Z at *
    have tZ : Z.take (r0.length * 8) = Z := List.take_of_length_le (by omega)
    simp (maxSteps := 4000000) (disch := (first | with_reducible rfl | assumption | with_reducible exact WB_NB _ _ | (with_reducible refine nb_le ?_; omega) | (with_reducible refine nb16_le ?_; omega) | omega | (simp only [List.length_append, List.length_map, List.length_cons, List.length_nil, List.length_set, List.length_replicate, List.length_take, List.size_toArray]; omega))) [E_GAll, lZ, tZ, List.length_map]
theorem sGAll : GoodS (21, GAll) := by
  intro xs r h
  simp only at h
  unfold GAll at h
  split at h
  · obtain ⟨a0, h0, h⟩ := Option.bind_eq_some_iff.1 h
    cases h
    obtain ⟨rfl, b0, c0⟩ := rowSD_out h0
    exact .inl <| okW_ends (mkS_ok (alls_cons sGOf alls_nil)) mixed Try.func21 rfl (by kernel_rfl : Fits Try.prog E_GAll.ref E_GAll.dep Try.f21 = true) (run_GAll _ b0 c0)
  · cases h
attribute [simp] GAll
end Go.Proofs.Ytofklpmlgfbmlaa.ZRat
namespace Go.Proofs.Ytofklpmlgfbmlaa.ZRat
open Go.RowKit Go.Proofs.Ytofklpmlgfbmlaa.Wd
open Go Go.Proofs.Ytofklpmlgfbmlaa.Ab Go.Proofs Go.Proofs.Ytofklpmlgfbmlaa.Num Go.Proofs.Ytofklpmlgfbmlaa.ZRatP
set_option linter.unusedSimpArgs false
set_option linter.unusedVariables false
set_option maxHeartbeats 8000000
set_option maxRecDepth 100000
theorem addQ (p q : Rat) : mkRat (p.num * (q.den : Int) + q.num * (p.den : Int)) ((p.den : Int) * (q.den : Int)).natAbs = p + q := by
  have h := addE (n1 := p.num) (n2 := q.num) (d1 := p.den) (d2 := q.den) (by have := p.den_pos; omega) (by have := q.den_pos; omega)
  rwa [Int.natAbs_natCast, Int.natAbs_natCast, Rat.mkRat_self, Rat.mkRat_self] at h
theorem areaR (g : List P2) : refT tri g (g.length - 2) = areaQ g := area_ref g
noncomputable def GArea : List AV → Option AV
  | [x0] => (rowRD 5 8 x0).bind fun a0 => some (rratA (areaQ a0).num (areaQ a0).den)
  | _ => none
noncomputable def E_GArea : Env := mkS [(34, FLong), (52, GTri), (33, FAdd), (50, FLow)] [(3, [0, 2, 3, 4])] []
theorem run_GArea (g0 : List P2) (b0 : ∀ p ∈ g0, okP 5 p) (c0 : g0.length ≤ 8) : AEnds E_GArea (finW Try.prog Try.f20.results) 0 [.code (Try.f20.body.getD .skip)] (startA Try.f20 [rowR g0] [] []) (rratA (areaQ g0).num (areaQ g0).den) := by
  simp only [Try.f20, Option.getD_some, startA]
  unfold rowR
  simp (maxSteps := 4000000) (disch := (first | with_reducible rfl | assumption | with_reducible exact WB_NB _ _ | (with_reducible refine nb_le ?_; omega) | (with_reducible refine nb16_le ?_; omega) | omega | (simp only [List.length_append, List.length_map, List.length_cons, List.length_nil, List.length_set, List.length_replicate, List.length_take, List.size_toArray]; omega))) [E_GArea]
  let C : Nat → AS := fun k => ⟨[.row g0.length (g0.flatMap cellsR), .any, .ptr 0 0, .ptr 1 0, .int .i64 ((k : Int) + 1), .any, .any, .any, .any, .any, .any, .any, .any, .any, .any, .any, .any, .any, .any, .any, .any, .any, .any, .any, .any, .any, .any, .any, .any, .any], [.obj [.int .i64 0, .nil, .int .i64 0, .nil], .obj [.int .i64 (refT tri g0 k).num.sign, digA (refT tri g0 k).num.natAbs, .int .i64 ((refT tri g0 k).den : Int).sign, digA ((refT tri g0 k).den : Int).natAbs]], [false, false]⟩
  have hsz := ref_sz (t := tri) (fun _ _ _ => tri_sz) b0
  have eA := areaR g0
  refine loop_up C (g0.length - 2) ?_ (fun k hk IH => ?_) ?_
  · simp only [E_GArea, firstR, mkS_keep, mkQ_keep, keepT, List.find?, Nat.reduceBEq, Option.map_some, Option.getD_some]
    simp (maxSteps := 4000000) (disch := (first | with_reducible rfl | assumption | with_reducible exact WB_NB _ _ | (with_reducible refine nb_le ?_; omega) | (with_reducible refine nb16_le ?_; omega) | omega | (simp only [List.length_append, List.length_map, List.length_cons, List.length_nil, List.length_set, List.length_replicate, List.length_take, List.size_toArray]; omega))) [E_GArea, C, refT]
  · have hl := lenR g0
    have r0 := chunkR (show 0 < g0.length by omega)
    have r1 := chunkR (show k + 1 < g0.length by omega)
    have r2 := chunkR (show k + 2 < g0.length by omega)
    have s0 := okP_at b0 (show 0 < g0.length by omega)
    have s1 := okP_at b0 (show k + 1 < g0.length by omega)
    have s2 := okP_at b0 (show k + 2 < g0.length by omega)
    haveI hS := hsz k (by omega)
    haveI hT := tri_sz s0 s1 s2
    simp only [C, refT] at IH ⊢
    clear C hsz eA
    generalize refT tri g0 k = S at *
    generalize pAt g0 0 = a at *
    generalize pAt g0 (k + 1) = b at *
    generalize pAt g0 (k + 2) = c at *
    generalize ht : tri a b c = t at *
    generalize g0.flatMap cellsR = Q at *
    generalize hn : g0.length = n at *
    have hk2 : k + 2 < n := by omega
    generalize hi : k + 1 = i at *
    have ei : (k : Int) + 1 = (i : Int) := by omega
    have ei2 : ((i : Int) + 1) = ((i + 1 : Nat) : Int) := by omega
    rw [show k + 2 = i + 1 by omega] at r2
    have hw : wrap64 ((i : Int) + 1) = ((i + 1 : Nat) : Int) := by rw [ei2]; exact w64s (by omega)
    have hi' : ((i + 1 : Nat) : Int) < (n : Int) := by omega
    have hi1 : (i : Int) < (n : Int) := by omega
    have r0' : Q.take 8 = cellsR a := by simpa using r0
    have b1 : i * 8 + 8 ≤ n * 8 := by omega
    have b2 : (i + 1) * 8 + 8 ≤ n * 8 := by omega
    have b3 : 8 ≤ n * 8 := by omega
    rw [ei]
    rw [ei2] at IH
    obtain ⟨ax, ay⟩ := a
    obtain ⟨bx, bY⟩ := b
    obtain ⟨cx, cy⟩ := c
    obtain ⟨i1, i2⟩ := s0
    obtain ⟨i3, i4⟩ := s1
    obtain ⟨i5, i6⟩ := s2
    simp only at i1 i2 i3 i4 i5 i6
    simp only [cellsR] at r0 r0' r1 r2
    simp (maxSteps := 4000000) (disch := (first | with_reducible rfl | assumption | with_reducible exact WB_NB _ _ | (with_reducible refine nb_le ?_; omega) | (with_reducible refine nb16_le ?_; omega) | omega | (simp only [List.length_append, List.length_map, List.length_cons, List.length_nil, List.length_set, List.length_replicate, List.length_take, List.size_toArray]; omega))) [E_GArea, hl, r0, r0', r1, r2, hw, hi', hi1, b1, b2, b3, ht, den_ne, den_pos', Rat.den_pos, rden, addQ, mkSelf, Rat.mkRat_self, Int.mul_eq_zero, -Int.sign_mul, -Int.sign_neg, -Int.natAbs_neg]
    refine again_of ?_ IH
    simp only [E_GArea, firstR, mkS_keep, mkQ_keep, keepT, List.find?, Nat.reduceBEq, Option.map_some, Option.getD_some]
    simp (maxSteps := 4000000) (disch := (first | with_reducible rfl | assumption | with_reducible exact WB_NB _ _ | (with_reducible refine nb_le ?_; omega) | (with_reducible refine nb16_le ?_; omega) | omega | (simp only [List.length_append, List.length_map, List.length_cons, List.length_nil, List.length_set, List.length_replicate, List.length_take, List.size_toArray]; omega))) [E_GArea]
  · simp only [C, eA]
    have w1 : wrap64 (((g0.length - 2 : Nat) : Int) + 1 + 1) = ((g0.length - 2 : Nat) : Int) + 1 + 1 := w64s (by omega)
    have w2 : ¬ ((g0.length - 2 : Nat) : Int) + 1 + 1 < (g0.length : Int) := by omega
    simp (maxSteps := 4000000) (disch := (first | with_reducible rfl | assumption | with_reducible exact WB_NB _ _ | (with_reducible refine nb_le ?_; omega) | (with_reducible refine nb16_le ?_; omega) | omega | (simp only [List.length_append, List.length_map, List.length_cons, List.length_nil, List.length_set, List.length_replicate, List.length_take, List.size_toArray]; omega))) [E_GArea, w1, w2]
theorem sGArea : GoodS (20, GArea) := by
  intro xs r h
  simp only at h
  unfold GArea at h
  split at h
  · obtain ⟨a0, h0, h⟩ := Option.bind_eq_some_iff.1 h
    cases h
    obtain ⟨rfl, b0, c0⟩ := rowRD_out h0
    exact .inl <| okW_ends (mkS_ok (alls_cons sFLong (alls_cons sGTri (alls_cons sFAdd (alls_cons sFLow alls_nil))))) mixed Try.func20 rfl (by kernel_rfl : Fits Try.prog E_GArea.ref E_GArea.dep Try.f20 = true) (run_GArea _ b0 c0)
  · cases h
attribute [simp] GArea
end Go.Proofs.Ytofklpmlgfbmlaa.ZRat
namespace Go.Proofs.Ytofklpmlgfbmlaa.ZRat
open Go.RowKit Go.Proofs.Ytofklpmlgfbmlaa.Wd
open Go Go.Proofs.Ytofklpmlgfbmlaa.Ab Go.Proofs Go.Proofs.Ytofklpmlgfbmlaa.Num Go.Proofs.Ytofklpmlgfbmlaa.ZRatP
set_option linter.unusedSimpArgs false
set_option linter.unusedVariables false
set_option maxHeartbeats 8000000
set_option maxRecDepth 100000
/-- A triangle's share of the center. -/
def triX3 (a b c : P2) : Rat := tri a b c * ((a.1 + b.1 + c.1) / 3)
def triY3 (a b c : P2) : Rat := tri a b c * ((a.2 + b.2 + c.2) / 3)
theorem refX3 (g : List P2) : ∀ k, refT triX3 g k = refT triX g k / 3
  | 0 => by simp only [refT]; grind
  | k + 1 => by
    simp only [refT, refX3 g k, triX3, triX]
    generalize tri _ _ _ = t
    grind
theorem refY3 (g : List P2) : ∀ k, refT triY3 g k = refT triY g k / 3
  | 0 => by simp only [refT]; grind
  | k + 1 => by
    simp only [refT, refY3 g k, triY3, triY]
    generalize tri _ _ _ = t
    grind
theorem centX_ref (g : List P2) : refT triX3 g (g.length - 2) / areaQ g = (centQ g).1 := by
  rw [refX3, sumX_ref]
  simp only [centQ]
  rw [Rat.div_def, Rat.div_def, Rat.div_def, Rat.inv_mul_rev, Rat.mul_assoc, Rat.mul_comm (3 : Rat)⁻¹]
theorem centY_ref (g : List P2) : refT triY3 g (g.length - 2) / areaQ g = (centQ g).2 := by
  rw [refY3, sumY_ref]
  simp only [centQ]
  rw [Rat.div_def, Rat.div_def, Rat.div_def, Rat.inv_mul_rev, Rat.mul_assoc, Rat.mul_comm (3 : Rat)⁻¹]
/-- A sum and a product with a third. -/
theorem thirdQ (S t m : Rat) : mkRat (S.num * ((t.den : Int) * ((m.den : Int) * 3)) + t.num * m.num * (S.den : Int)) ((S.den : Int) * ((t.den : Int) * ((m.den : Int) * 3))).natAbs = S + t * (m / 3) := by
  have p1 : (0 : Int) < S.den := by have := S.den_pos; omega
  have p2 : (0 : Int) < t.den := by have := t.den_pos; omega
  have p3 : (0 : Int) < m.den := by have := m.den_pos; omega
  have h := addE (n1 := S.num) (n2 := t.num * m.num) (d1 := S.den) (d2 := (t.den : Int) * ((m.den : Int) * 3)) p1 (Int.mul_pos p2 (by omega))
  rw [h, mulE, Int.natAbs_natCast, Int.natAbs_natCast, Rat.mkRat_self, Rat.mkRat_self]
  have e : mkRat m.num ((m.den : Int) * 3).natAbs = m / 3 := by
    have hm : m = (m.num : Rat) / ((m.den : Nat) : Rat) := by rw [← Rat.mkRat_eq_div, Rat.mkRat_self]
    have hd : ((m.den : Nat) : Rat) ≠ 0 := by rw [← Rat.intCast_natCast, Ne, Rat.intCast_eq_zero_iff]; omega
    rw [Rat.mkRat_eq_div, Int.natAbs_mul, Int.natAbs_natCast, show (3 : Int).natAbs = 3 from rfl, Rat.natCast_mul]
    conv => rhs; rw [hm]
    generalize ((m.den : Nat) : Rat) = d at *
    generalize (m.num : Rat) = n at *
    clear hm h
    have e3 : ((3 : Nat) : Rat) = 3 := rfl
    rw [e3]
    grind
  rw [e]
theorem divQ (p q : Rat) (h : ¬ q = 0) : (if (p.den : Int) * q.num < 0 then mkRat (-(p.num * (q.den : Int))) (-((p.den : Int) * q.num)).natAbs else mkRat (p.num * (q.den : Int)) ((p.den : Int) * q.num).natAbs) = p / q := by
  have hp : (0 : Int) < p.den := by have := p.den_pos; omega
  have hq : (0 : Int) < q.den := by have := q.den_pos; omega
  have hn : q.num ≠ 0 := by rw [Ne, Rat.num_eq_zero]; exact h
  have cast : ∀ {d : Int}, d ≠ 0 → (d : Rat) ≠ 0 := fun h => by rw [Ne, Rat.intCast_eq_zero_iff]; exact h
  have ep : p = (p.num : Rat) / ((p.den : Int) : Rat) := by rw [Rat.intCast_natCast, ← Rat.mkRat_eq_div, Rat.mkRat_self]
  have eq : q = (q.num : Rat) / ((q.den : Int) : Rat) := by rw [Rat.intCast_natCast, ← Rat.mkRat_eq_div, Rat.mkRat_self]
  have c0 := cast (show ((p.den : Int)) ≠ 0 by omega)
  have c1 := cast (show ((q.den : Int)) ≠ 0 by omega)
  have c2 := cast hn
  have na : ∀ {d : Int}, 0 < d → ((d.natAbs : Nat) : Rat) = (d : Rat) := fun h => by rw [← Rat.intCast_natCast, Int.natAbs_of_nonneg (by omega)]
  split
  · rename_i hd
    rw [Rat.mkRat_eq_div, na (by omega), Rat.intCast_neg, Rat.intCast_neg, Rat.intCast_mul, Rat.intCast_mul]
    conv => rhs; rw [ep, eq]
    generalize ((p.den : Int) : Rat) = d at *
    generalize ((q.den : Int) : Rat) = e at *
    generalize (p.num : Rat) = n at *
    generalize (q.num : Rat) = m at *
    clear ep eq
    grind
  · rename_i hd
    have hne : (p.den : Int) * q.num ≠ 0 := Int.mul_ne_zero (by omega) hn
    rw [Rat.mkRat_eq_div, na (by omega), Rat.intCast_mul, Rat.intCast_mul]
    conv => rhs; rw [ep, eq]
    generalize ((p.den : Int) : Rat) = d at *
    generalize ((q.den : Int) : Rat) = e at *
    generalize (p.num : Rat) = n at *
    generalize (q.num : Rat) = m at *
    clear ep eq
    grind
theorem triX3_sz {L : Nat} {a b c : P2} (ha : okP L a) (hb : okP L b) (hc : okP L c) : SzQ (triX3 a b c) (L + L + 1 + (L + L + 1) + (L + L + 1 + (L + L + 1)) + 1 + (L + L + 1 + L + 1 + 2)) := by
  haveI := tri_sz ha hb hc
  haveI := ha.1
  haveI := hb.1
  haveI := hc.1
  haveI : SzQ (3 : Rat) 2 := ⟨by decide, by decide⟩
  unfold triX3
  infer_instance
theorem triY3_sz {L : Nat} {a b c : P2} (ha : okP L a) (hb : okP L b) (hc : okP L c) : SzQ (triY3 a b c) (L + L + 1 + (L + L + 1) + (L + L + 1 + (L + L + 1)) + 1 + (L + L + 1 + L + 1 + 2)) := by
  haveI := tri_sz ha hb hc
  haveI := ha.2
  haveI := hb.2
  haveI := hc.2
  haveI : SzQ (3 : Rat) 2 := ⟨by decide, by decide⟩
  unfold triY3
  infer_instance
theorem area_szR {L : Nat} {g : List P2} (b : ∀ p ∈ g, okP L p) : SzQ (areaQ g) ((L + L + 1 + (L + L + 1) + (L + L + 1 + (L + L + 1)) + 1 + 1) * (g.length - 2) + 1) := by
  rw [← area_ref]; exact ref_sz (t := tri) (fun _ _ _ => tri_sz) b _ (by omega)
noncomputable def GNought : List AV → Option AV
  | [] => some (spotRA 0 1 0 1)
  | _ => none
noncomputable def E_GNought : Env := mkS [(34, FLong)] [] []
theorem run_GNought  : AEnds E_GNought (finW Try.prog Try.f62.results) 0 [.code (Try.f62.body.getD .skip)] (startA Try.f62 [] [] []) (spotRA 0 1 0 1) := by
  simp only [Try.f62, Option.getD_some, startA]
  simp (maxSteps := 4000000) (disch := (first | with_reducible rfl | assumption | with_reducible exact WB_NB _ _ | (with_reducible refine nb_le ?_; omega) | (with_reducible refine nb16_le ?_; omega) | omega | (simp only [List.length_append, List.length_map, List.length_cons, List.length_nil, List.length_set, List.length_replicate, List.length_take, List.size_toArray]; omega))) [E_GNought]
theorem sGNought : GoodS (62, GNought) := by
  intro xs r h
  simp only at h
  unfold GNought at h
  split at h
  · skip
    cases h
    exact .inl <| okW_ends (mkS_ok (alls_cons sFLong alls_nil)) mixed Try.func62 rfl (by kernel_rfl : Fits Try.prog E_GNought.ref E_GNought.dep Try.f62 = true) (run_GNought )
  · cases h
attribute [simp] GNought
noncomputable def GCent : List AV → Option AV
  | [x0] => (rowRD 5 8 x0).bind fun a0 => some (if areaQ a0 = 0 then .tup [spotRA 0 1 0 1, .bool false] else .tup [.agg (cellsR (centQ a0)), .bool true])
  | _ => none
noncomputable def E_GCent : Env := mkS [(20, GArea), (34, FLong), (62, GNought), (52, GTri), (64, Gmean), (63, FMul), (33, FAdd), (50, FLow), (65, FDiv)] [(5, [0, 2, 4, 5, 6, 7])] [(7, [([], [], false), ([], [], false), ([], [], false), ([], [], false), ([], [], false), ([], [], false), ([], [], false), ([], [], false), ([], [], false), ([], [], false), ([], [], false), ([], [], false), ([], [], false), ([], [], false), ([0], [], false)])]
theorem run_GCent (g0 : List P2) (b0 : ∀ p ∈ g0, okP 5 p) (c0 : g0.length ≤ 8) : AEnds E_GCent (finW Try.prog Try.f24.results) 0 [.code (Try.f24.body.getD .skip)] (startA Try.f24 [rowR g0] [] []) (if areaQ g0 = 0 then .tup [spotRA 0 1 0 1, .bool false] else .tup [.agg (cellsR (centQ g0)), .bool true]) := by
  simp only [Try.f24, Option.getD_some, startA]
  have hd : rowRD 5 8 (.row g0.length (g0.flatMap cellsR)) = some g0 := rowRD_row b0 c0
  haveI hzA : SzQ (areaQ g0) (46 * 6 + 1) := (area_szR b0).up (by omega)
  unfold rowR
  have eX := centX_ref g0
  have eY := centY_ref g0
  generalize hA : areaQ g0 = A at *
  by_cases h0 : A = 0
  · rw [if_pos h0]
    have hn : A.num = 0 := by rw [h0]; rfl
    subst h0
    simp (maxSteps := 4000000) (disch := (first | with_reducible rfl | assumption | with_reducible exact WB_NB _ _ | (with_reducible refine nb_le ?_; omega) | (with_reducible refine nb16_le ?_; omega) | omega | (simp only [List.length_append, List.length_map, List.length_cons, List.length_nil, List.length_set, List.length_replicate, List.length_take, List.size_toArray]; omega))) [E_GCent, hd, hA, rowR, -Int.sign_mul, -Int.sign_neg, -Int.natAbs_neg]
  · rw [if_neg h0]
    have hAn : ¬ A.num = 0 := by rw [Rat.num_eq_zero]; exact h0
    simp (maxSteps := 4000000) (disch := (first | with_reducible rfl | assumption | with_reducible exact WB_NB _ _ | (with_reducible refine nb_le ?_; omega) | (with_reducible refine nb16_le ?_; omega) | omega | (simp only [List.length_append, List.length_map, List.length_cons, List.length_nil, List.length_set, List.length_replicate, List.length_take, List.size_toArray]; omega))) [E_GCent, hd, hA, h0, hAn, rowR, -Int.sign_mul, -Int.sign_neg, -Int.natAbs_neg]
    let C : Nat → AS := fun k => ⟨[.row g0.length (g0.flatMap cellsR), .any, .ptr 0 0, .any, .ptr 1 0, .ptr 2 0, .ptr 3 0, .int .i64 ((k : Int) + 1), .any, .any, .any, .any, .any, .any, .any, .any, .any, .any, .any, .any, .any, .any, .any, .any, .any, .any, .any, .any, .any, .any, .any, .any, .any, .any, .any, .any, .any, .any, .any, .any, .any, .any, .any, .any, .any, .any, .any, .any, .any, .any, .any, .any, .any, .any, .any, .any, .any, .any, .any, .any, .any, .any, .any, .any, .any, .any, .any, .any, .any, .any, .any, .any, .any, .any, .any, .any, .any, .any, .any, .any, .any, .any, .any, .any, .any, .any, .any, .any, .any], [.obj [.int .i64 0, .nil, .int .i64 0, .nil, .int .i64 0, .nil, .int .i64 0, .nil], .obj [.int .i64 (A).num.sign, digA (A).num.natAbs, .int .i64 ((A).den : Int).sign, digA ((A).den : Int).natAbs], .obj [.int .i64 (refT triX3 g0 k).num.sign, digA (refT triX3 g0 k).num.natAbs, .int .i64 ((refT triX3 g0 k).den : Int).sign, digA ((refT triX3 g0 k).den : Int).natAbs], .obj [.int .i64 (refT triY3 g0 k).num.sign, digA (refT triY3 g0 k).num.natAbs, .int .i64 ((refT triY3 g0 k).den : Int).sign, digA ((refT triY3 g0 k).den : Int).natAbs]], [false, false, false, false]⟩
    have hszX := ref_sz (t := triX3) (fun _ _ _ => triX3_sz) b0
    have hszY := ref_sz (t := triY3) (fun _ _ _ => triY3_sz) b0
    refine loop_up C (g0.length - 2) ?_ (fun k hk IH => ?_) ?_
    · simp only [E_GCent, firstR, mkS_keep, mkQ_keep, keepT, List.find?, Nat.reduceBEq, Option.map_some, Option.getD_some]
      simp (maxSteps := 4000000) (disch := (first | with_reducible rfl | assumption | with_reducible exact WB_NB _ _ | (with_reducible refine nb_le ?_; omega) | (with_reducible refine nb16_le ?_; omega) | omega | (simp only [List.length_append, List.length_map, List.length_cons, List.length_nil, List.length_set, List.length_replicate, List.length_take, List.size_toArray]; omega))) [E_GCent, C, refT]
    · have hl := lenR g0
      have r0 := chunkR (show 0 < g0.length by omega)
      have r1 := chunkR (show k + 1 < g0.length by omega)
      have r2 := chunkR (show k + 2 < g0.length by omega)
      have u0 := chunkX (show 0 < g0.length by omega)
      have u1 := chunkX (show k + 1 < g0.length by omega)
      have u2 := chunkX (show k + 2 < g0.length by omega)
      have v0 := chunkY (show 0 < g0.length by omega)
      have v1 := chunkY (show k + 1 < g0.length by omega)
      have v2 := chunkY (show k + 2 < g0.length by omega)
      have s0 := okP_at b0 (show 0 < g0.length by omega)
      have s1 := okP_at b0 (show k + 1 < g0.length by omega)
      have s2 := okP_at b0 (show k + 2 < g0.length by omega)
      haveI hS := hszX k (by omega)
      haveI hU := hszY k (by omega)
      haveI hT := tri_sz s0 s1 s2
      simp only [C, refT, triX3, triY3] at IH ⊢
      clear C hszX hszY eX eY hd hA
      generalize refT triX3 g0 k = S at *
      generalize refT triY3 g0 k = U at *
      generalize pAt g0 0 = a at *
      generalize pAt g0 (k + 1) = b at *
      generalize pAt g0 (k + 2) = c at *
      generalize ht : tri a b c = t at *
      generalize g0.flatMap cellsR = Q at *
      generalize hn : g0.length = n at *
      generalize hi : k + 1 = i at *
      have ei : (k : Int) + 1 = (i : Int) := by omega
      have ei2 : ((i : Int) + 1) = ((i + 1 : Nat) : Int) := by omega
      rw [show k + 2 = i + 1 by omega] at r2 u2 v2
      have hw : wrap64 ((i : Int) + 1) = ((i + 1 : Nat) : Int) := by rw [ei2]; exact w64s (by omega)
      have hi' : ((i + 1 : Nat) : Int) < (n : Int) := by omega
      have hi1 : (i : Int) < (n : Int) := by omega
      have r0' : Q.take 8 = cellsR a := by simpa using r0
      have u0' : Q.take 4 = cellsF a.1 := by simpa using u0
      have v0' : (Q.drop 4).take 4 = cellsF a.2 := by simpa using v0
      have w1 : i * 8 + 8 ≤ n * 8 := by omega
      have w2 : (i + 1) * 8 + 8 ≤ n * 8 := by omega
      have w3 : 8 ≤ n * 8 := by omega
      have w4 : i * 8 + 4 ≤ n * 8 := by omega
      have w5 : (i + 1) * 8 + 4 ≤ n * 8 := by omega
      have w6 : 4 ≤ n * 8 := by omega
      have w7 : i * 8 + 4 + 4 ≤ n * 8 := by omega
      have w8 : (i + 1) * 8 + 4 + 4 ≤ n * 8 := by omega
      rw [ei]
      rw [ei2] at IH
      obtain ⟨ax, ay⟩ := a
      obtain ⟨bx, bY⟩ := b
      obtain ⟨cx, cy⟩ := c
      obtain ⟨i1, i2⟩ := s0
      obtain ⟨i3, i4⟩ := s1
      obtain ⟨i5, i6⟩ := s2
      simp only at i1 i2 i3 i4 i5 i6
      simp only [cellsR, cellsF] at r0 r0' r1 r2 u0 u0' u1 u2 v0 v0' v1 v2
      haveI z1 : SzQ (ax + bx + cx) (5 + 5 + 1 + 5 + 1) := inferInstance
      haveI z2 : SzQ (ay + bY + cy) (5 + 5 + 1 + 5 + 1) := inferInstance
      generalize hmx : ax + bx + cx = mx at *
      generalize hmy : ay + bY + cy = my at *
      simp (maxSteps := 4000000) (disch := (first | with_reducible rfl | assumption | with_reducible exact WB_NB _ _ | (with_reducible refine nb_le ?_; omega) | (with_reducible refine nb16_le ?_; omega) | omega | (simp only [List.length_append, List.length_map, List.length_cons, List.length_nil, List.length_set, List.length_replicate, List.length_take, List.size_toArray]; omega))) [E_GCent, hl, r0', r1, r2, u0', u1, u2, v0', v1, v2, hw, hi', hi1, w1, w2, w3, w4, w5, w6, w7, w8, ht, hmx, hmy, den_ne, den_pos', Rat.den_pos, rden, thirdQ, mkSelf, Rat.mkRat_self, Int.mul_eq_zero, -Int.sign_mul, -Int.sign_neg, -Int.natAbs_neg]
      refine again_of ?_ IH
      simp only [E_GCent, firstR, mkS_keep, mkQ_keep, keepT, List.find?, Nat.reduceBEq, Option.map_some, Option.getD_some]
      simp (maxSteps := 4000000) (disch := (first | with_reducible rfl | assumption | with_reducible exact WB_NB _ _ | (with_reducible refine nb_le ?_; omega) | (with_reducible refine nb16_le ?_; omega) | omega | (simp only [List.length_append, List.length_map, List.length_cons, List.length_nil, List.length_set, List.length_replicate, List.length_take, List.size_toArray]; omega))) [E_GCent]
    · haveI hS : SzQ (refT triX3 g0 (g0.length - 2)) 500 := (hszX (g0.length - 2) (by omega)).up (by omega)
      haveI hU : SzQ (refT triY3 g0 (g0.length - 2)) 500 := (hszY (g0.length - 2) (by omega)).up (by omega)
      simp only [C]
      clear hszX hszY hd hA C
      generalize refT triX3 g0 (g0.length - 2) = S at *
      generalize refT triY3 g0 (g0.length - 2) = U at *
      have w1 : wrap64 (((g0.length - 2 : Nat) : Int) + 1 + 1) = ((g0.length - 2 : Nat) : Int) + 1 + 1 := w64s (by omega)
      have w2 : ¬ ((g0.length - 2 : Nat) : Int) + 1 + 1 < (g0.length : Int) := by omega
      have dX := divQ S A h0
      have dY := divQ U A h0
      rw [eX] at dX
      rw [eY] at dY
      simp only [cellsR]
      generalize (centQ g0).1 = cx at *
      generalize (centQ g0).2 = cy at *
      by_cases hneg : A.num < 0
      · have n1 : (S.den : Int) * A.num < 0 := Int.mul_neg_of_pos_of_neg (by have := S.den_pos; omega) hneg
        have n2 : (U.den : Int) * A.num < 0 := Int.mul_neg_of_pos_of_neg (by have := U.den_pos; omega) hneg
        rw [if_pos n1] at dX
        rw [if_pos n2] at dY
        simp (maxSteps := 4000000) (disch := (first | with_reducible rfl | assumption | with_reducible exact WB_NB _ _ | (with_reducible refine nb_le ?_; omega) | (with_reducible refine nb16_le ?_; omega) | omega | (simp only [List.length_append, List.length_map, List.length_cons, List.length_nil, List.length_set, List.length_replicate, List.length_take, List.size_toArray]; omega))) [E_GCent, w1, w2, n1, n2, dX, dY, hAn, den_ne, den_pos', Rat.den_pos, rden, Int.mul_eq_zero, -Int.sign_mul, -Int.sign_neg, -Int.natAbs_neg]
      · have n1 : ¬ (S.den : Int) * A.num < 0 := by
          have := Int.mul_nonneg (show (0 : Int) ≤ S.den by omega) (show 0 ≤ A.num by omega); omega
        have n2 : ¬ (U.den : Int) * A.num < 0 := by
          have := Int.mul_nonneg (show (0 : Int) ≤ U.den by omega) (show 0 ≤ A.num by omega); omega
        rw [if_neg n1] at dX
        rw [if_neg n2] at dY
        simp (maxSteps := 4000000) (disch := (first | with_reducible rfl | assumption | with_reducible exact WB_NB _ _ | (with_reducible refine nb_le ?_; omega) | (with_reducible refine nb16_le ?_; omega) | omega | (simp only [List.length_append, List.length_map, List.length_cons, List.length_nil, List.length_set, List.length_replicate, List.length_take, List.size_toArray]; omega))) [E_GCent, w1, w2, n1, n2, dX, dY, hAn, den_ne, den_pos', Rat.den_pos, rden, Int.mul_eq_zero, -Int.sign_mul, -Int.sign_neg, -Int.natAbs_neg]
theorem sGCent : GoodS (24, GCent) := by
  intro xs r h
  simp only at h
  unfold GCent at h
  split at h
  · obtain ⟨a0, h0, h⟩ := Option.bind_eq_some_iff.1 h
    cases h
    obtain ⟨rfl, b0, c0⟩ := rowRD_out h0
    exact .inl <| okW_ends (mkS_ok (alls_cons sGArea (alls_cons sFLong (alls_cons sGNought (alls_cons sGTri (alls_cons sGmean (alls_cons sFMul (alls_cons sFAdd (alls_cons sFLow (alls_cons sFDiv alls_nil)))))))))) mixed Try.func24 rfl (by kernel_rfl : Fits Try.prog E_GCent.ref E_GCent.dep Try.f24 = true) (run_GCent _ b0 c0)
  · cases h
attribute [simp] GCent
end Go.Proofs.Ytofklpmlgfbmlaa.ZRat
namespace Go.Proofs.Ytofklpmlgfbmlaa.ZRat
open Go.RowKit Go.Proofs.Ytofklpmlgfbmlaa.Wd
open Go Go.Proofs.Ytofklpmlgfbmlaa.Ab Go.Proofs Go.Proofs.Ytofklpmlgfbmlaa.Num Go.Proofs.Ytofklpmlgfbmlaa.ZRatP
set_option linter.unusedSimpArgs false
set_option linter.unusedVariables false
set_option maxHeartbeats 8000000
set_option maxRecDepth 100000
theorem le8 {i n : Nat} (h : i < n) : i * 8 + 8 ≤ n * 8 := by omega
noncomputable def GInside : List AV → Option AV
  | [x0, x1] => (rowRD 5 8 x0).bind fun a0 => (spotRD 100 x1).bind fun a1 => if 0 < a1.1.2 ∧ 0 < a1.2.2 then some (.bool (insideB a0 (mkRat a1.1.1 a1.1.2.natAbs, mkRat a1.2.1 a1.2.2.natAbs))) else none
  | _ => none
noncomputable def E_GInside : Env := mkS [(52, GTri)] [(2, [0, 3, 5])] []
theorem run_GInside (g0 : List P2) (b0 : ∀ p ∈ g0, okP 5 p) (c0 : g0.length ≤ 8) (n1 d1 m1 e1 : Int) (b1 : ((NB 65536 n1.natAbs).length ≤ 100 ∧ (NB 65536 d1.natAbs).length ≤ 100) ∧ (NB 65536 m1.natAbs).length ≤ 100 ∧ (NB 65536 e1.natAbs).length ≤ 100) (hc : 0 < d1 ∧ 0 < e1) : AEnds E_GInside (finW Try.prog Try.f28.results) 0 [.code (Try.f28.body.getD .skip)] (startA Try.f28 [rowR g0, spotRA n1 d1 m1 e1] [] []) (.bool (insideB g0 (mkRat n1 d1.natAbs, mkRat m1 e1.natAbs))) := by
  haveI := SzI.dig b1.1.1
  haveI := SzI.dig b1.1.2
  haveI := SzI.dig b1.2.1
  haveI := SzI.dig b1.2.2
  simp only [Try.f28, Option.getD_some, startA]
  obtain ⟨hc1, hc2⟩ := hc
  unfold rowR
  simp (maxSteps := 4000000) (disch := (first | with_reducible rfl | assumption | with_reducible exact WB_NB _ _ | (with_reducible refine nb_le ?_; omega) | (with_reducible refine nb16_le ?_; omega) | omega | (simp only [List.length_append, List.length_map, List.length_cons, List.length_nil, List.length_set, List.length_replicate, List.length_take, List.size_toArray]; omega))) [E_GInside, hc1, hc2, -Int.sign_mul, -Int.sign_neg, -Int.natAbs_neg]
  let C : Nat → AS := fun i => ⟨[.row g0.length (g0.flatMap cellsR), .any, .any, .ptr 0 0, .any, .int .i64 i, .any, .any, .any, .any, .any, .any, .any, .any, .any, .any, .any, .any, .any, .any, .any, .any, .any, .any, .any, .any, .any, .any, .any, .any, .any, .any], [.obj [.int .i64 n1.sign, digA n1.natAbs, .int .i64 d1.sign, digA d1.natAbs, .int .i64 m1.sign, digA m1.natAbs, .int .i64 e1.sign, digA e1.natAbs]], [false]⟩
  by_cases hL : leftB g0 (mkRat n1 d1.natAbs, mkRat m1 e1.natAbs) g0.length = false
  · obtain ⟨j, hj, hj1, hj2⟩ := leftB_first hL
    have hI : insideB g0 (mkRat n1 d1.natAbs, mkRat m1 e1.natAbs) = false := by unfold insideB; rw [hL]; rfl
    rw [hI]
    refine loop_up C j ?_ (fun i hi IH => ?_) ?_
    · simp only [E_GInside, firstR, mkS_keep, mkQ_keep, keepT, List.find?, Nat.reduceBEq, Option.map_some, Option.getD_some]
      simp (maxSteps := 4000000) (disch := (first | with_reducible rfl | assumption | with_reducible exact WB_NB _ _ | (with_reducible refine nb_le ?_; omega) | (with_reducible refine nb16_le ?_; omega) | omega | (simp only [List.length_append, List.length_map, List.length_cons, List.length_nil, List.length_set, List.length_replicate, List.length_take, List.size_toArray]; omega))) [E_GInside, C]
    · have hs := sign_nn (hj1 i hi)
      have hh : (i : Int) < (g0.length : Int) := by omega
      replace hi : i < g0.length := by omega
      simp only [C] at IH ⊢
      clear C hj1 hj2 hL hI
      have hl := lenR g0
      have r1 := chunkR (show i < g0.length by omega)
      have hm : (i + 1) % g0.length < g0.length := Nat.mod_lt _ (by omega)
      have r2 := chunkR hm
      have s1 := okP_at b0 (show i < g0.length by omega)
      have s2 := okP_at b0 hm
      have b1' : i * 8 + 8 ≤ g0.length * 8 := le8 hi
      have b2 : (i + 1) % g0.length * 8 + 8 ≤ g0.length * 8 := le8 hm
      have hlt : g0.length < 1000000 := Nat.lt_of_le_of_lt c0 (by decide)
      obtain ⟨a1', a2, a3, a4, a5⟩ := it_arith hi hlt
      generalize pAt g0 i = a at *
      generalize pAt g0 ((i + 1) % g0.length) = b at *
      generalize g0.flatMap cellsR = Q at *
      generalize (i + 1) % g0.length = j' at *
      have a6 : (j' : Int) < (g0.length : Int) := Int.ofNat_lt.2 a4
      obtain ⟨ax, ay⟩ := a
      obtain ⟨bx, bY⟩ := b
      obtain ⟨i1, i2⟩ := s1
      obtain ⟨i3, i4⟩ := s2
      simp only at i1 i2 i3 i4
      have hne : ¬ g0 = [] := fun h => by rw [h] at hi; simp at hi
      haveI : SzQ (mkRat n1 d1.natAbs) 101 := (inferInstance : SzQ (mkRat n1 d1.natAbs) _)
      haveI : SzQ (mkRat m1 e1.natAbs) 101 := (inferInstance : SzQ (mkRat m1 e1.natAbs) _)
      haveI hT := tri_sz (L := 101) (a := (ax, ay)) (b := (bx, bY)) (c := (mkRat n1 d1.natAbs, mkRat m1 e1.natAbs)) ⟨SzQ.up i1 (by omega), SzQ.up i2 (by omega)⟩ ⟨SzQ.up i3 (by omega), SzQ.up i4 (by omega)⟩ ⟨inferInstance, inferInstance⟩
      simp only [cellsR] at r1 r2
      generalize ht : tri (ax, ay) (bx, bY) (mkRat n1 d1.natAbs, mkRat m1 e1.natAbs) = t at *
      have F := Aside0.mk (And.intro hl (And.intro a1' (And.intro a2 (And.intro a3 (And.intro a4 (And.intro a5 (And.intro a6 (And.intro b1' (And.intro b2 (And.intro hh hs))))))))))
      clear hl a1' a2 a3 a4 a5 a6 b1' b2 hh hs hm
      simp (maxSteps := 4000000) (disch := (first | with_reducible rfl | assumption | with_reducible exact WB_NB _ _ | (with_reducible refine nb_le ?_; omega) | (with_reducible refine nb16_le ?_; omega) | omega | (simp only [List.length_append, List.length_map, List.length_cons, List.length_nil, List.length_set, List.length_replicate, List.length_take, List.size_toArray]; omega))) [E_GInside, F.out, r1, r2, hne, ht, den_ne, den_pos', Rat.den_pos, rden, mkSelf, Rat.mkRat_self, hc1, hc2, -Int.sign_mul, -Int.sign_neg, -Int.natAbs_neg]
      refine again_of ?_ IH
      simp only [E_GInside, firstR, mkS_keep, mkQ_keep, keepT, List.find?, Nat.reduceBEq, Option.map_some, Option.getD_some]
      simp (maxSteps := 4000000) (disch := (first | with_reducible rfl | assumption | with_reducible exact WB_NB _ _ | (with_reducible refine nb_le ?_; omega) | (with_reducible refine nb16_le ?_; omega) | omega | (simp only [List.length_append, List.length_map, List.length_cons, List.length_nil, List.length_set, List.length_replicate, List.length_take, List.size_toArray]; omega))) [E_GInside]
    · have hs := sign_nn' hj2
      have hh : (j : Int) < (g0.length : Int) := by omega
      have hi := hj
      simp only [C]
      clear C hj1 hL hj2 hI
      generalize j = i at *
      have hl := lenR g0
      have r1 := chunkR (show i < g0.length by omega)
      have hm : (i + 1) % g0.length < g0.length := Nat.mod_lt _ (by omega)
      have r2 := chunkR hm
      have s1 := okP_at b0 (show i < g0.length by omega)
      have s2 := okP_at b0 hm
      have b1' : i * 8 + 8 ≤ g0.length * 8 := le8 hi
      have b2 : (i + 1) % g0.length * 8 + 8 ≤ g0.length * 8 := le8 hm
      have hlt : g0.length < 1000000 := Nat.lt_of_le_of_lt c0 (by decide)
      obtain ⟨a1', a2, a3, a4, a5⟩ := it_arith hi hlt
      generalize pAt g0 i = a at *
      generalize pAt g0 ((i + 1) % g0.length) = b at *
      generalize g0.flatMap cellsR = Q at *
      generalize (i + 1) % g0.length = j' at *
      have a6 : (j' : Int) < (g0.length : Int) := Int.ofNat_lt.2 a4
      obtain ⟨ax, ay⟩ := a
      obtain ⟨bx, bY⟩ := b
      obtain ⟨i1, i2⟩ := s1
      obtain ⟨i3, i4⟩ := s2
      simp only at i1 i2 i3 i4
      have hne : ¬ g0 = [] := fun h => by rw [h] at hi; simp at hi
      haveI : SzQ (mkRat n1 d1.natAbs) 101 := (inferInstance : SzQ (mkRat n1 d1.natAbs) _)
      haveI : SzQ (mkRat m1 e1.natAbs) 101 := (inferInstance : SzQ (mkRat m1 e1.natAbs) _)
      haveI hT := tri_sz (L := 101) (a := (ax, ay)) (b := (bx, bY)) (c := (mkRat n1 d1.natAbs, mkRat m1 e1.natAbs)) ⟨SzQ.up i1 (by omega), SzQ.up i2 (by omega)⟩ ⟨SzQ.up i3 (by omega), SzQ.up i4 (by omega)⟩ ⟨inferInstance, inferInstance⟩
      simp only [cellsR] at r1 r2
      generalize ht : tri (ax, ay) (bx, bY) (mkRat n1 d1.natAbs, mkRat m1 e1.natAbs) = t at *
      have F := Aside0.mk (And.intro hl (And.intro a1' (And.intro a2 (And.intro a3 (And.intro a4 (And.intro a5 (And.intro a6 (And.intro b1' (And.intro b2 (And.intro hh hs))))))))))
      clear hl a1' a2 a3 a4 a5 a6 b1' b2 hh hs hm
      simp (maxSteps := 4000000) (disch := (first | with_reducible rfl | assumption | with_reducible exact WB_NB _ _ | (with_reducible refine nb_le ?_; omega) | (with_reducible refine nb16_le ?_; omega) | omega | (simp only [List.length_append, List.length_map, List.length_cons, List.length_nil, List.length_set, List.length_replicate, List.length_take, List.size_toArray]; omega))) [E_GInside, F.out, r1, r2, hne, ht, den_ne, den_pos', Rat.den_pos, rden, mkSelf, Rat.mkRat_self, hc1, hc2, -Int.sign_mul, -Int.sign_neg, -Int.natAbs_neg]
  · have hL' : leftB g0 (mkRat n1 d1.natAbs, mkRat m1 e1.natAbs) g0.length = true := by simpa using hL
    have hI : insideB g0 (mkRat n1 d1.natAbs, mkRat m1 e1.natAbs) = decide (3 ≤ g0.length) := by unfold insideB; rw [hL', Bool.true_and]
    have ha := leftB_all hL'
    rw [hI]
    refine loop_up C g0.length ?_ (fun i hi IH => ?_) ?_
    · simp only [E_GInside, firstR, mkS_keep, mkQ_keep, keepT, List.find?, Nat.reduceBEq, Option.map_some, Option.getD_some]
      simp (maxSteps := 4000000) (disch := (first | with_reducible rfl | assumption | with_reducible exact WB_NB _ _ | (with_reducible refine nb_le ?_; omega) | (with_reducible refine nb16_le ?_; omega) | omega | (simp only [List.length_append, List.length_map, List.length_cons, List.length_nil, List.length_set, List.length_replicate, List.length_take, List.size_toArray]; omega))) [E_GInside, C]
    · have hs := sign_nn (ha i hi)
      have hh : (i : Int) < (g0.length : Int) := by omega
      simp only [C] at IH ⊢
      clear C ha hL hL' hI
      have hl := lenR g0
      have r1 := chunkR (show i < g0.length by omega)
      have hm : (i + 1) % g0.length < g0.length := Nat.mod_lt _ (by omega)
      have r2 := chunkR hm
      have s1 := okP_at b0 (show i < g0.length by omega)
      have s2 := okP_at b0 hm
      have b1' : i * 8 + 8 ≤ g0.length * 8 := le8 hi
      have b2 : (i + 1) % g0.length * 8 + 8 ≤ g0.length * 8 := le8 hm
      have hlt : g0.length < 1000000 := Nat.lt_of_le_of_lt c0 (by decide)
      obtain ⟨a1', a2, a3, a4, a5⟩ := it_arith hi hlt
      generalize pAt g0 i = a at *
      generalize pAt g0 ((i + 1) % g0.length) = b at *
      generalize g0.flatMap cellsR = Q at *
      generalize (i + 1) % g0.length = j' at *
      have a6 : (j' : Int) < (g0.length : Int) := Int.ofNat_lt.2 a4
      obtain ⟨ax, ay⟩ := a
      obtain ⟨bx, bY⟩ := b
      obtain ⟨i1, i2⟩ := s1
      obtain ⟨i3, i4⟩ := s2
      simp only at i1 i2 i3 i4
      have hne : ¬ g0 = [] := fun h => by rw [h] at hi; simp at hi
      haveI : SzQ (mkRat n1 d1.natAbs) 101 := (inferInstance : SzQ (mkRat n1 d1.natAbs) _)
      haveI : SzQ (mkRat m1 e1.natAbs) 101 := (inferInstance : SzQ (mkRat m1 e1.natAbs) _)
      haveI hT := tri_sz (L := 101) (a := (ax, ay)) (b := (bx, bY)) (c := (mkRat n1 d1.natAbs, mkRat m1 e1.natAbs)) ⟨SzQ.up i1 (by omega), SzQ.up i2 (by omega)⟩ ⟨SzQ.up i3 (by omega), SzQ.up i4 (by omega)⟩ ⟨inferInstance, inferInstance⟩
      simp only [cellsR] at r1 r2
      generalize ht : tri (ax, ay) (bx, bY) (mkRat n1 d1.natAbs, mkRat m1 e1.natAbs) = t at *
      have F := Aside0.mk (And.intro hl (And.intro a1' (And.intro a2 (And.intro a3 (And.intro a4 (And.intro a5 (And.intro a6 (And.intro b1' (And.intro b2 (And.intro hh hs))))))))))
      clear hl a1' a2 a3 a4 a5 a6 b1' b2 hh hs hm
      simp (maxSteps := 4000000) (disch := (first | with_reducible rfl | assumption | with_reducible exact WB_NB _ _ | (with_reducible refine nb_le ?_; omega) | (with_reducible refine nb16_le ?_; omega) | omega | (simp only [List.length_append, List.length_map, List.length_cons, List.length_nil, List.length_set, List.length_replicate, List.length_take, List.size_toArray]; omega))) [E_GInside, F.out, r1, r2, hne, ht, den_ne, den_pos', Rat.den_pos, rden, mkSelf, Rat.mkRat_self, hc1, hc2, -Int.sign_mul, -Int.sign_neg, -Int.natAbs_neg]
      refine again_of ?_ IH
      simp only [E_GInside, firstR, mkS_keep, mkQ_keep, keepT, List.find?, Nat.reduceBEq, Option.map_some, Option.getD_some]
      simp (maxSteps := 4000000) (disch := (first | with_reducible rfl | assumption | with_reducible exact WB_NB _ _ | (with_reducible refine nb_le ?_; omega) | (with_reducible refine nb16_le ?_; omega) | omega | (simp only [List.length_append, List.length_map, List.length_cons, List.length_nil, List.length_set, List.length_replicate, List.length_take, List.size_toArray]; omega))) [E_GInside]
    · simp only [C]
      by_cases h3 : 3 ≤ g0.length
      · have h3' : (3 : Int) ≤ (g0.length : Int) := by omega
        simp (maxSteps := 4000000) (disch := (first | with_reducible rfl | assumption | with_reducible exact WB_NB _ _ | (with_reducible refine nb_le ?_; omega) | (with_reducible refine nb16_le ?_; omega) | omega | (simp only [List.length_append, List.length_map, List.length_cons, List.length_nil, List.length_set, List.length_replicate, List.length_take, List.size_toArray]; omega))) [E_GInside, h3, h3']
      · have h3' : ¬ (3 : Int) ≤ (g0.length : Int) := by omega
        simp (maxSteps := 4000000) (disch := (first | with_reducible rfl | assumption | with_reducible exact WB_NB _ _ | (with_reducible refine nb_le ?_; omega) | (with_reducible refine nb16_le ?_; omega) | omega | (simp only [List.length_append, List.length_map, List.length_cons, List.length_nil, List.length_set, List.length_replicate, List.length_take, List.size_toArray]; omega))) [E_GInside, h3, h3']
theorem sGInside : GoodS (28, GInside) := by
  intro xs r h
  simp only at h
  unfold GInside at h
  split at h
  · obtain ⟨a0, h0, h⟩ := Option.bind_eq_some_iff.1 h
    obtain ⟨a1, h1, h⟩ := Option.bind_eq_some_iff.1 h
    split at h
    · rename_i hc
      cases h
      obtain ⟨rfl, b0, c0⟩ := rowRD_out h0
      (obtain ⟨⟨n1, d1⟩, m1, e1⟩ := a1); (obtain ⟨rfl, b1⟩ := spotRD_out h1)
      exact .inl <| okW_ends (mkS_ok (alls_cons sGTri alls_nil)) mixed Try.func28 rfl (by kernel_rfl : Fits Try.prog E_GInside.ref E_GInside.dep Try.f28 = true) (run_GInside _ b0 c0 _ _ _ _ b1 hc)
    · cases h
  · cases h
attribute [simp] GInside
end Go.Proofs.Ytofklpmlgfbmlaa.ZRat
/- The reference's Trim, by reference. -/
namespace Go.Proofs.Ytofklpmlgfbmlaa.ZRat
open Go.RowKit Go.Proofs.Ytofklpmlgfbmlaa.Wd
open Go Go.Proofs.Ytofklpmlgfbmlaa.Ab Go.Proofs
set_option linter.unusedSimpArgs false
set_option linter.unusedVariables false
set_option maxHeartbeats 4000000
set_option maxRecDepth 10000
theorem dtrim_l0_pre : ∀ (k : Nat) (l : List Int) (x : Int) (r : List Int), zelligeref03_Trim.l0 k l x = some r → ∃ n, n ≤ l.length ∧ r = l.take n
  | 0, _, _, _, h => by simp [zelligeref03_Trim.l0] at h
  | k + 1, l, x, r, h => by
    have ih := dtrim_l0_pre k l
    simp only [zelligeref03_Trim.l0] at h
    repeat' split at h
    all_goals first | (simp only [reduceCtorEq] at h; done) | (with_reducible obtain rfl := Option.some.inj h; exact ⟨_, by omega, rfl⟩) | exact ih _ _ h
theorem dtrim_pre {k : Nat} {l r : List Int} (h : zelligeref03_Trim.f k l = some r) : ∃ t, l = r ++ t := by
  obtain ⟨n, _, rfl⟩ := dtrim_l0_pre k l _ r h
  exact ⟨l.drop n, (List.take_append_drop n l).symm⟩
theorem n47R_ls (T : List AV) (r : (List Int)) (k : Nat) : (∀ (x0 : List Int) (x3 : Int), zelligeref03_Trim.l0 k x0 x3 = some r → AEnds E47 (finR Try.prog Try.f47.results) 1 (atLoop Try.f47 2) ⟨fr 21 [(0, .own 0 0 x0.length 1), (3, .int .i64 x3)], [.arr (x0.map (.int .i64) ++ T)], [false]⟩ (.own 0 0 r.length 1, [.arr (x0.map (.int .i64) ++ T)], [false])) := by
  induction k using Nat.strongRecOn with
  | _ k ih =>
  intro x0 x3 h
  cases k with
  | zero => simp [zelligeref03_Trim.l0] at h
  | succ k1 =>
  simp only [zelligeref03_Trim.l0] at h
  simp only [Try.f47, atLoop, seek, firstR, reduceIte, Option.getD_some, Nat.reduceEqDiff]
  rcases ite_some h with ⟨c2, h⟩ | ⟨c2, h⟩
  · rcases ite_some h with ⟨c3, h⟩ | ⟨c3, h⟩
    · rcases ite_some h with ⟨c4, h⟩ | ⟨c4, h⟩
      · rcases ite_some h with ⟨c5, h⟩ | ⟨c5, h⟩
        · simp (maxSteps := 2000000) (disch := (first | omega | (simp only [List.length_append, List.length_map, List.length_cons, List.length_nil, List.length_set, List.length_replicate, List.length_take, List.size_toArray]; omega))) [E47, c2, c3, c4, c5]
          refine AEnds.againS ((ih k1 (by omega)) _ _  h) ?_
          simp only [E47, firstR, mk_keep, keepT, List.find?, Nat.reduceBEq, Option.map_some, Option.getD_some]
          simp (maxSteps := 2000000) (disch := (first | omega | (simp only [List.length_append, List.length_map, List.length_cons, List.length_nil, List.length_set, List.length_replicate, List.length_take, List.size_toArray]; omega))) [E47, c2, c3, c4, c5]
          try omega
        · rcases ite_some h with ⟨c6, h⟩ | ⟨c6, h⟩
          · rcases ite_some h with ⟨c7, h⟩ | ⟨c7, h⟩
            · obtain rfl := Option.some.inj h
              simp (maxSteps := 2000000) (disch := (first | omega | (simp only [List.length_append, List.length_map, List.length_cons, List.length_nil, List.length_set, List.length_replicate, List.length_take, List.size_toArray]; omega))) [E47, c2, c3, c4, c5, c6, c7]
              try omega
            · cases h
          · cases h
      · cases h
    · cases h
  · rcases ite_some h with ⟨c8, h⟩ | ⟨c8, h⟩
    · rcases ite_some h with ⟨c9, h⟩ | ⟨c9, h⟩
      · obtain rfl := Option.some.inj h
        simp (maxSteps := 2000000) (disch := (first | omega | (simp only [List.length_append, List.length_map, List.length_cons, List.length_nil, List.length_set, List.length_replicate, List.length_take, List.size_toArray]; omega))) [E47, c2, c8, c9]
        try omega
      · cases h
    · cases h
theorem n47R_run (T : List AV) (k : Nat) (l0 : List Int) (r : (List Int)) (h : zelligeref03_Trim.f k l0 = some r) : AEnds E47 (finR Try.prog Try.f47.results) 1 [.code (Try.f47.body.getD .skip)] (startA Try.f47 [.own 0 0 l0.length 1] [.arr (l0.map (.int .i64) ++ T)] [false]) (.own 0 0 r.length 1, [.arr (l0.map (.int .i64) ++ T)], [false]) := by
  unfold zelligeref03_Trim.f at h
  simp only [Try.f47, Option.getD_some, startA]
  simp (maxSteps := 2000000) (disch := (first | omega | (simp only [List.length_append, List.length_map, List.length_cons, List.length_nil, List.length_set, List.length_replicate, List.length_take, List.size_toArray]; omega))) [E47]
  refine AEnds.loopS (n47R_ls T _ _ _ _ h) ?_
  simp only [E47, firstR, mk_keep, keepT, List.find?, Nat.reduceBEq, Option.map_some, Option.getD_some]
  simp (maxSteps := 2000000) (disch := (first | omega | (simp only [List.length_append, List.length_map, List.length_cons, List.length_nil, List.length_set, List.length_replicate, List.length_take, List.size_toArray]; omega))) [E47]
noncomputable def SRD : List AV → List Blk → List Bool → Option (AV × List Blk × List Bool)
  | [.own 0 0 n 1], [.arr cs], [false] => (unC .i64 cs).bind fun l => if n ≤ l.length then (pick fun k => zelligeref03_Trim.f k (l.take n)).map fun r => (.own 0 0 r.length 1, [.arr cs], [false]) else none
  | _, _, _ => none
noncomputable def mkT (kt : List (Nat × List Nat)) (dt : List (Nat × List (List Nat × List Nat × Bool))) : Env := ⟨Try.prog, fun f => [47].contains f, fun _ _ => none, fun f xs h z => if [47].contains f then SRD xs h z else none, keepT kt, depT dt, fun _ _ => none⟩
section
variable {kt : List (Nat × List Nat)} {dt : List (Nat × List (List Nat × List Nat × Bool))}
theorem mkT_P : (mkT kt dt).P = Try.prog := rfl
theorem mkT_ref {f : FuncId} : (mkT kt dt).ref f = [47].contains f := rfl
theorem mkT_callR {f : FuncId} {xs : List AV} {h : List Blk} {z : List Bool} : (mkT kt dt).callR f xs h z = if [47].contains f then SRD xs h z else none := rfl
theorem mkT_keep {i : Nat} : (mkT kt dt).keep i = keepT kt i := rfl
theorem mkT_dep {i : Nat} : (mkT kt dt).dep i = depT dt i := rfl
theorem mkT_ok : EnvOk (mkT kt dt) Try.prog := by
  refine ⟨rfl, fun f xs r h => by simp [mkT] at h, fun f xs h z v h' z' hr => ?_, fun _ _ _ h => by simp [mkT] at h⟩
  simp only [mkT_callR] at hr
  split at hr
  · rename_i hc
    have hf : f = 47 := by simpa using hc
    subst hf
    unfold SRD at hr
    split at hr
    · rename_i n cs
      obtain ⟨l, hl, hr⟩ := Option.bind_eq_some_iff.1 hr
      split at hr
      · rename_i hn
        obtain ⟨q, hq, e⟩ := Option.map_eq_some_iff.1 hr
        obtain ⟨k, hk⟩ := of_pick hq
        have := n47R_run ((l.drop n).map (.int .i64)) k (l.take n) q hk
        rw [← List.map_append, List.take_append_drop, List.length_take, Nat.min_eq_left hn, ← unC_eq hl, e] at this
        exact okR_ends (mkE_ok all_nil all_nil) mixed Try.func47 rfl (by kernel_rfl : Fits Try.prog E47.ref E47.dep Try.f47 = true) this
      · cases hr
    · cases hr
  · cases hr
end
attribute [simp] SRD mkT_P mkT_ref mkT_callR mkT_keep mkT_dep
end Go.Proofs.Ytofklpmlgfbmlaa.ZRat
namespace Go.Proofs.Ytofklpmlgfbmlaa.ZRat
open Go.RowKit Go.Proofs.Ytofklpmlgfbmlaa.Wd
open Go Go.Proofs.Ytofklpmlgfbmlaa.Ab Go.Proofs
set_option linter.unusedSimpArgs false
set_option linter.unusedVariables false
set_option maxHeartbeats 4000000
set_option maxRecDepth 10000
noncomputable def E110 : Env := mkT [(2, [3, 4]), (5, [3, 4, 5, 6])] []
theorem n110_ls (r : (ByteArray)) (k : Nat) : (∀ (tl : List Int) (x3 : List Int) (x4 : ByteArray), zelligeref03_Show.l0 k x3 x4 = some r → AEnds E110 (finW Try.prog Try.f110.results) 0 (atLoop Try.f110 2) ⟨fr 47 [(3, .own 0 0 x3.length 1), (4, (.str x4))], [.arr ((x3 ++ tl).map (.int .i64))], [false]⟩ (.str r)) ∧ (∀ (tl : List Int) (x3 : List Int) (x4 : ByteArray) (x5 : Int) (x6 : Int), zelligeref03_Show.l1 k x3 x4 x5 x6 = some r → AEnds E110 (finW Try.prog Try.f110.results) 0 (atLoop Try.f110 5) ⟨fr 47 [(3, .own 0 0 x3.length 1), (4, (.str x4)), (5, (.int .i64 x5)), (6, (.int .i64 x6))], [.arr ((x3 ++ tl).map (.int .i64))], [false]⟩ (.str r)) := by
  induction k using Nat.strongRecOn with
  | _ k ih =>
  refine ⟨?_, ?_⟩
  · intro tl x3 x4 h
    cases k with
    | zero => simp [zelligeref03_Show.l0] at h
    | succ k1 =>
    simp only [zelligeref03_Show.l0] at h
    simp only [Try.f110, atLoop, seek, firstR, reduceIte, Option.getD_some, Nat.reduceEqDiff]
    replace h := ite_some h
    rcases h with ⟨c2, h⟩ | ⟨c2, h⟩
    · cases k1 with
      | zero => simp [zelligeref03_Show.j1] at h
      | succ k3 =>
      simp only [zelligeref03_Show.j1] at h
      replace h := ite_some h
      rcases h with ⟨c4, h⟩ | ⟨c4, h⟩
      · simp (maxSteps := 2000000) (disch := (first | omega | (simp only [List.length_append, List.length_map, List.length_cons, List.length_nil, List.length_set, List.length_replicate, List.length_take, List.size_toArray]; omega))) [E110, c2]
        refine AEnds.loopS ((ih k3 (by omega)).2 tl _ _ _ _  h) ?_
        simp only [E110, firstR, mkT_keep, keepT, List.find?, Nat.reduceBEq, Option.map_some, Option.getD_some]
        simp (maxSteps := 2000000) (disch := (first | omega | (simp only [List.length_append, List.length_map, List.length_cons, List.length_nil, List.length_set, List.length_replicate, List.length_take, List.size_toArray]; omega))) [E110, c2]
        try omega
      · simp at c4
    · cases k1 with
      | zero => simp [zelligeref03_Show.j1] at h
      | succ k5 =>
      simp only [zelligeref03_Show.j1] at h
      replace h := ite_some h
      rcases h with ⟨c6, h⟩ | ⟨c6, h⟩
      · try simp only [List.length_cons, List.length_nil, Nat.zero_add, Nat.reduceAdd] at c6
        simp (maxSteps := 2000000) (disch := (first | omega | (simp only [List.length_append, List.length_map, List.length_cons, List.length_nil, List.length_set, List.length_replicate, List.length_take, List.size_toArray]; omega))) [E110, c2, c6]
        refine AEnds.loopS ((ih k5 (by omega)).2 tl _ _ _ _  h) ?_
        simp only [E110, firstR, mkT_keep, keepT, List.find?, Nat.reduceBEq, Option.map_some, Option.getD_some]
        simp (maxSteps := 2000000) (disch := (first | omega | (simp only [List.length_append, List.length_map, List.length_cons, List.length_nil, List.length_set, List.length_replicate, List.length_take, List.size_toArray]; omega))) [E110, c2, c6]
        try omega
      · try simp only [List.length_cons, List.length_nil, Nat.zero_add, Nat.reduceAdd] at c6
        obtain rfl := Option.some.inj h
        simp (maxSteps := 2000000) (disch := (first | omega | (simp only [List.length_append, List.length_map, List.length_cons, List.length_nil, List.length_set, List.length_replicate, List.length_take, List.size_toArray]; omega))) [E110, c2, c6]
        try omega
  · intro tl x3 x4 x5 x6 h
    cases k with
    | zero => simp [zelligeref03_Show.l1] at h
    | succ k7 =>
    simp only [zelligeref03_Show.l1] at h
    simp only [Try.f110, atLoop, seek, firstR, reduceIte, Option.getD_some, Nat.reduceEqDiff]
    replace h := ite_some h
    rcases h with ⟨c8, h⟩ | ⟨c8, h⟩
    · replace h := ite_some h
      rcases h with ⟨c9, h⟩ | ⟨c9, h⟩
      · replace h := ite_some h
        rcases h with ⟨c10, h⟩ | ⟨c10, h⟩
        · simp (maxSteps := 2000000) (disch := (first | omega | (simp only [List.length_append, List.length_map, List.length_cons, List.length_nil, List.length_set, List.length_replicate, List.length_take, List.size_toArray]; omega))) [E110, c8, c9, c10]
          refine AEnds.againS ((ih k7 (by omega)).2 tl _ _ _ _  h) ?_
          simp only [E110, firstR, mkT_keep, keepT, List.find?, Nat.reduceBEq, Option.map_some, Option.getD_some]
          simp (maxSteps := 2000000) (disch := (first | omega | (simp only [List.length_append, List.length_map, List.length_cons, List.length_nil, List.length_set, List.length_replicate, List.length_take, List.size_toArray]; omega))) [E110, c8, c9, c10]
          try omega
        · cases h
      · cases h
    · replace h := Option.bind_eq_some_iff.1 h
      obtain ⟨t11, e12, h⟩ := h
      have p13 := pick_of (fun k r h => zelligeref03_Trim.mono _  k r h) e12
      obtain ⟨tlq14, q14⟩ := dtrim_pre e12
      subst q14
      replace h := ite_some h
      rcases h with ⟨c15, h⟩ | ⟨c15, h⟩
      · replace h := ite_some h
        rcases h with ⟨c16, h⟩ | ⟨c16, h⟩
        · replace h := ite_some h
          rcases h with ⟨c17, h⟩ | ⟨c17, h⟩
          · replace h := ite_some h
            rcases h with ⟨c18, h⟩ | ⟨c18, h⟩
            · try simp only [List.length_cons, List.length_nil, Nat.zero_add, Nat.reduceAdd] at c18
              have cN : (9223372036854775807 < ((((wrap64 (x5 + 1)).toNat - x5.toNat : Nat) : Int) + (x4.size : Int))) = False := by
                refine eq_false ?_
                simp only [ByteArray.size_extract] at c18
                have e10 : (⟨#[48, 49, 50, 51, 52, 53, 54, 55, 56, 57]⟩ : ByteArray).size = 10 := rfl
                rw [e10] at c18
                omega
              simp (maxSteps := 2000000) (disch := (first | omega | (simp only [List.length_append, List.length_map, List.length_cons, List.length_nil, List.length_set, List.length_replicate, List.length_take, List.size_toArray]; omega))) [E110, c8, p13, c15, c16, c17, c18, cN]
              refine AEnds.againS ((ih k7 (by omega)).1 (tlq14 ++ tl) _ _  h) ?_
              simp only [E110, firstR, mkT_keep, keepT, List.find?, Nat.reduceBEq, Option.map_some, Option.getD_some]
              simp (maxSteps := 2000000) (disch := (first | omega | (simp only [List.length_append, List.length_map, List.length_cons, List.length_nil, List.length_set, List.length_replicate, List.length_take, List.size_toArray]; omega))) [E110, c8, p13, c15, c16, c17, c18, cN]
              try omega
            · try simp only [List.length_cons, List.length_nil, Nat.zero_add, Nat.reduceAdd] at c18
              cases h
          · cases h
        · cases h
      · cases h
theorem n110_run (k : Nat) (l0 : List Int) (r : (ByteArray)) (h : zelligeref03_Show.f k l0 = some r) : AEnds E110 (finW Try.prog Try.f110.results) 0 [.code (Try.f110.body.getD .skip)] (startA Try.f110 [(rowI .i64 l0)] [] []) (.str r) := by
  unfold zelligeref03_Show.f at h
  simp only [Try.f110, Option.getD_some, startA]
  replace h := Option.bind_eq_some_iff.1 h
  obtain ⟨t19, e20, h⟩ := h
  obtain rfl := Option.some.inj e20
  replace h := ite_some h
  rcases h with ⟨c21, h⟩ | ⟨c21, h⟩
  · try simp only [List.length_cons, List.length_nil, Nat.zero_add, Nat.reduceAdd] at c21
    simp (maxSteps := 2000000) (disch := (first | omega | (simp only [List.length_append, List.length_map, List.length_cons, List.length_nil, List.length_set, List.length_replicate, List.length_take, List.size_toArray]; omega))) [E110, c21]
    refine AEnds.loopS ((n110_ls _ _).1 [] _ _  h) ?_
    simp only [E110, firstR, mkT_keep, keepT, List.find?, Nat.reduceBEq, Option.map_some, Option.getD_some]
    simp (maxSteps := 2000000) (disch := (first | omega | (simp only [List.length_append, List.length_map, List.length_cons, List.length_nil, List.length_set, List.length_replicate, List.length_take, List.size_toArray]; omega))) [E110, c21]
    try omega
  · try simp only [List.length_cons, List.length_nil, Nat.zero_add, Nat.reduceAdd] at c21
    cases h
end Go.Proofs.Ytofklpmlgfbmlaa.ZRat
namespace Go.Proofs.Ytofklpmlgfbmlaa.ZRat
open Go.RowKit Go.Proofs.Ytofklpmlgfbmlaa.Wd
open Go Go.Proofs.Ytofklpmlgfbmlaa.Ab Go.Proofs Go.Proofs.Ytofklpmlgfbmlaa.Num Go.Proofs.Ytofklpmlgfbmlaa.ZRatP
set_option linter.unusedSimpArgs false
set_option linter.unusedVariables false
set_option maxHeartbeats 8000000
set_option maxRecDepth 100000
noncomputable def DShow : List AV → Option AV
  | [x] => (digD 100000000 x).bind fun n => some (.str (showS n))
  | _ => none
theorem sDShow : GoodS (110, DShow) := by
  intro xs r h
  simp only at h
  unfold DShow at h
  split at h
  · obtain ⟨n, h0, h⟩ := Option.bind_eq_some_iff.1 h
    cases h
    obtain ⟨rfl, b⟩ := digD_out h0
    obtain ⟨k, hk⟩ := (RShow_f n (by omega)).rounds
    exact .inl <| okW_ends mkT_ok mixed Try.func110 rfl (by kernel_rfl : Fits Try.prog E110.ref E110.dep Try.f110 = true) (n110_run k _ _ hk)
  · cases h
attribute [simp] DShow
theorem showZ_nat (n : Nat) : showZ (n : Int) = showS n := by unfold showZ; rw [if_neg (by omega), Int.natAbs_natCast]
noncomputable def ZShow : List AV → Option AV
  | [x0] => (rintD 1000000 x0).bind fun a0 => some (.str (showZ a0))
  | _ => none
noncomputable def E_ZShow : Env := mkS [(110, DShow)] [] []
theorem run_ZShow (a0 : Int) (b0 : (NB 65536 a0.natAbs).length ≤ 1000000) : AEnds E_ZShow (finW Try.prog Try.f86.results) 0 [.code (Try.f86.body.getD .skip)] (startA Try.f86 [rintA a0] [] []) (.str (showZ a0)) := by
  haveI := SzI.dig b0
  simp only [Try.f86, Option.getD_some, startA]
  by_cases hs : a0 < 0
  · have z1 := showS_le (n := a0.natAbs) ⟨(SzI.dig (L := 1000000) b0).lt⟩
    simp (maxSteps := 4000000) (disch := (first | with_reducible rfl | assumption | with_reducible exact WB_NB _ _ | (with_reducible refine nb_le ?_; omega) | (with_reducible refine nb16_le ?_; omega) | omega | (simp only [List.length_append, List.length_map, List.length_cons, List.length_nil, List.length_set, List.length_replicate, List.length_take, List.size_toArray]; omega))) [E_ZShow, hs, showZ, sign_lt]
  · simp (maxSteps := 4000000) (disch := (first | with_reducible rfl | assumption | with_reducible exact WB_NB _ _ | (with_reducible refine nb_le ?_; omega) | (with_reducible refine nb16_le ?_; omega) | omega | (simp only [List.length_append, List.length_map, List.length_cons, List.length_nil, List.length_set, List.length_replicate, List.length_take, List.size_toArray]; omega))) [E_ZShow, hs, showZ, sign_lt]
theorem sZShow : GoodS (86, ZShow) := by
  intro xs r h
  simp only at h
  unfold ZShow at h
  split at h
  · obtain ⟨a0, h0, h⟩ := Option.bind_eq_some_iff.1 h
    cases h
    obtain ⟨rfl, b0⟩ := rintD_out h0
    exact .inl <| okW_ends (mkS_ok (alls_cons sDShow alls_nil)) mixed Try.func86 rfl (by kernel_rfl : Fits Try.prog E_ZShow.ref E_ZShow.dep Try.f86 = true) (run_ZShow _ b0)
  · cases h
attribute [simp] ZShow
noncomputable def FShow : List AV → Option AV
  | [x0] => (rratD 10000 x0).bind fun a0 => if a0.2 ≠ 0 then some (.str (showP (mkRat a0.1 a0.2.natAbs).num (mkRat a0.1 a0.2.natAbs).den)) else none
  | _ => none
noncomputable def E_FShow : Env := mkS [(50, FLow), (68, ZCmp), (13, ZLong), (86, ZShow)] [] []
theorem run_FShow (n0 d0 : Int) (b0 : (NB 65536 n0.natAbs).length ≤ 10000) (c0 : (NB 65536 d0.natAbs).length ≤ 10000) (hc : d0 ≠ 0) : AEnds E_FShow (finW Try.prog Try.f54.results) 0 [.code (Try.f54.body.getD .skip)] (startA Try.f54 [rratA n0 d0] [] []) (.str (showP (mkRat n0 d0.natAbs).num (mkRat n0 d0.natAbs).den)) := by
  haveI := SzI.dig b0
  haveI := SzI.dig c0
  simp only [Try.f54, Option.getD_some, startA]
  have hd : ¬ d0.natAbs = 0 := by omega
  haveI hQ : SzQ (mkRat n0 d0.natAbs) _ := inferInstance
  generalize hq : mkRat n0 d0.natAbs = q at *
  have hS : ((q.den : Nat) : Int).sign = 1 := Int.sign_eq_one_of_pos (by have := q.den_pos; omega)
  have hp : 0 < q.den := q.den_pos
  have z1 := showZ_le ⟨hQ.num⟩
  have z2 := showS_le ⟨hQ.den⟩
  by_cases h1 : q.den = 1
  · simp (maxSteps := 4000000) (disch := (first | with_reducible rfl | assumption | with_reducible exact WB_NB _ _ | (with_reducible refine nb_le ?_; omega) | (with_reducible refine nb16_le ?_; omega) | omega | (simp only [List.length_append, List.length_map, List.length_cons, List.length_nil, List.length_set, List.length_replicate, List.length_take, List.size_toArray]; omega))) [E_FShow, hc, hd, hq, h1, hS, showP, cmpZ]
  · have hc2 : ¬ cmpZ (q.den : Int) 1 = 0 := by unfold cmpZ; split <;> (try split) <;> omega
    simp (maxSteps := 4000000) (disch := (first | with_reducible rfl | assumption | with_reducible exact WB_NB _ _ | (with_reducible refine nb_le ?_; omega) | (with_reducible refine nb16_le ?_; omega) | omega | (simp only [List.length_append, List.length_map, List.length_cons, List.length_nil, List.length_set, List.length_replicate, List.length_take, List.size_toArray]; omega))) [E_FShow, hc, hd, hq, h1, hS, hc2, showP, showZ_nat]
theorem sFShow : GoodS (54, FShow) := by
  intro xs r h
  simp only at h
  unfold FShow at h
  split at h
  · obtain ⟨a0, h0, h⟩ := Option.bind_eq_some_iff.1 h
    split at h
    · rename_i hc
      cases h
      obtain ⟨rfl, b0, c0⟩ := rratD_out h0
      exact .inl <| okW_ends (mkS_ok (alls_cons sFLow (alls_cons sZCmp (alls_cons sZLong (alls_cons sZShow alls_nil))))) mixed Try.func54 rfl (by kernel_rfl : Fits Try.prog E_FShow.ref E_FShow.dep Try.f54 = true) (run_FShow _ _ b0 c0 hc)
    · cases h
  · cases h
attribute [simp] FShow
end Go.Proofs.Ytofklpmlgfbmlaa.ZRat
