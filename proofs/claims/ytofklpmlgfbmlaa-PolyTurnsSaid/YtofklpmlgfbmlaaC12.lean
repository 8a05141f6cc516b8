/- Walks by the abstract run: what the laws of polygons share. -/
import Derived.Test.YtofklpmlgfbmlaaC10
import Derived.Test.YtofklpmlgfbmlaaC11
import Derived.Test.YtofklpmlgfbmlaaC8
import Derived.Test.YtofklpmlgfbmlaaC9
set_option linter.unusedVariables false
set_option linter.unusedSimpArgs false
namespace Go.Proofs.Ytofklpmlgfbmlaa.ZRat
open Go.RowKit Go.Proofs.Ytofklpmlgfbmlaa.Wd
open Go Go.Proofs.Ytofklpmlgfbmlaa.Ab Go.Proofs Go.Proofs.Ytofklpmlgfbmlaa.Num Go.Proofs.Ytofklpmlgfbmlaa.ZRatP
set_option linter.unusedSimpArgs false
set_option linter.unusedVariables false
set_option maxHeartbeats 8000000
set_option maxRecDepth 100000
def cutQ (r : RQ) : RQ := (r.1, cut 2 r.2.1, cut 2 r.2.2)
def cutS (p : RS) : RS := (cutQ p.1, cutQ p.2)
def fewS (r : List RS) : List RS := (r.take 7).map cutS
open Classical in
/-- Spots of a row, however long. -/
noncomputable def rowSU (x : AV) : Option (List RS) := if h : ∃ l : List RS, x = rowS l then some h.choose else none
theorem rowSU_out {x : AV} {l : List RS} (h : rowSU x = some l) : x = rowS l := by
  unfold rowSU at h
  split at h
  · rename_i hx
    cases h
    exact hx.choose_spec
  · cases h
theorem rowSU_row (l : List RS) : rowSU (rowS l) = some l := by
  have hx : ∃ l' : List RS, rowS l = rowS l' := ⟨l, rfl⟩
  unfold rowSU
  rw [dif_pos hx, rowS_inj hx.choose_spec.symm]
theorem sAt_get {l : List RS} {i : Nat} (h : i < l.length) : l[i]? = some (sAt l i) := by
  rw [sAt, List.getD_eq_getElem?_getD, List.getElem?_eq_getElem h]; rfl
def cellsQ (r : RQ) : List AV := [.bool r.1, rowI .u32 r.2.1, rowI .u32 r.2.2]
theorem chunkSX {l : List RS} {i : Nat} (h : i < l.length) : ((l.flatMap cellsS).drop (i * 6)).take 3 = cellsQ (sAt l i).1 := flat_sub (c := cellsS) (n := 6) (fun _ => rfl) (sAt_get h) 0 3 (by omega)
theorem chunkSY {l : List RS} {i : Nat} (h : i < l.length) : ((l.flatMap cellsS).drop (i * 6 + 3)).take 3 = cellsQ (sAt l i).2 := flat_sub (c := cellsS) (n := 6) (fun _ => rfl) (sAt_get h) 3 3 (by omega)
theorem few_next (l : List RS) {i : Nat} (hi : i < l.length) : ((l.map cutS).take (i + 1)).flatMap cellsS = ((l.map cutS).take i).flatMap cellsS ++ cellsS (cutS (sAt l i)) := by
  have h : (l.map cutS)[i]? = some (cutS (sAt l i)) := by
    rw [List.getElem?_map, sAt_get hi]; rfl
  rw [List.take_add_one, List.flatMap_append, h]; simp
theorem flat_take {α : Type} {c : α → List AV} {n : Nat} (hn : ∀ p, (c p).length = n) : ∀ (k : Nat) (l : List α), k ≤ l.length → (l.flatMap c).take (k * n) = (l.take k).flatMap c
  | 0, l, _ => by simp
  | k + 1, [], h => by simp at h
  | k + 1, x :: l, h => by
    have ih := flat_take hn k l (by simpa using h)
    rw [List.flatMap_cons, List.take_succ_cons, List.flatMap_cons, ← ih, Nat.add_mul, Nat.one_mul, Nat.add_comm (k * n), List.take_append, hn x, Nat.add_sub_cancel_left, List.take_of_length_le (by rw [hn]; omega)]
theorem takeS {l : List RS} (h : 7 ≤ l.length) : (l.flatMap cellsS).take 42 = (l.take 7).flatMap cellsS := flat_take (c := cellsS) (n := 6) (fun _ => rfl) 7 l h
noncomputable def Pat : List AV → Option AV
  | [x0, x1] => (unN .u32 x0).bind fun a0 => (unN .u32 x1).bind fun a1 => some (.agg [.bool false, rowI .u32 [a0], rowI .u32 [1], .bool false, rowI .u32 [a1], rowI .u32 [1]])
  | _ => none
noncomputable def E_Pat : Env := mkS [] [] []
theorem run_Pat (a0 : Int) (a1 : Int) : AEnds E_Pat (finW Try.prog Try.f53.results) 0 [.code (Try.f53.body.getD .skip)] (startA Try.f53 [.int .u32 a0, .int .u32 a1] [] []) (.agg [.bool false, rowI .u32 [a0], rowI .u32 [1], .bool false, rowI .u32 [a1], rowI .u32 [1]]) := by
  simp only [Try.f53, Option.getD_some, startA]
  simp (maxSteps := 4000000) (disch := (first | with_reducible rfl | assumption | with_reducible exact WB_NB _ _ | (with_reducible refine nb_le ?_; omega) | (with_reducible refine nb16_le ?_; omega) | omega | (simp only [List.length_append, List.length_map, List.length_cons, List.length_nil, List.length_set, List.length_replicate, List.length_take, List.size_toArray]; omega))) [E_Pat]
theorem sPat : GoodS (53, Pat) := by
  intro xs r h
  simp only at h
  unfold Pat at h
  split at h
  · obtain ⟨a0, h0, h⟩ := Option.bind_eq_some_iff.1 h
    obtain ⟨a1, h1, h⟩ := Option.bind_eq_some_iff.1 h
    cases h
    obtain rfl := unN_eq h0
    obtain rfl := unN_eq h1
    exact .inl <| okW_ends (mkS_ok alls_nil) mixed Try.func53 rfl (by kernel_rfl : Fits Try.prog E_Pat.ref E_Pat.dep Try.f53 = true) (run_Pat _ _)
  · cases h
attribute [simp] Pat
noncomputable def Pshort : List AV → Option AV
  | [x0] => (ratX x0).bind fun a0 => some (.agg [.bool a0.1, rowI .u32 (cut 2 a0.2.1), rowI .u32 (cut 2 a0.2.2)])
  | _ => none
noncomputable def E_Pshort : Env := mkS [] [] [(5, [([], [], false), ([], [], false), ([], [], true), ([], [], false), ([], [], false), ([], [], false), ([], [], false), ([0], [2], true), ([], [], false), ([], [7], false), ([], [], false), ([], [7], false), ([0, 1, 2], [2], false), ([], [], false), ([0, 1, 2, 3], [], false)])]
theorem run_Pshort (s0 : Bool) (l0 m0 : List Int) : AEnds E_Pshort (finW Try.prog Try.f26.results) 0 [.code (Try.f26.body.getD .skip)] (startA Try.f26 [.agg [.bool s0, rowI .u32 l0, rowI .u32 m0]] [] []) (.agg [.bool s0, rowI .u32 (cut 2 l0), rowI .u32 (cut 2 m0)]) := by
  simp only [Try.f26, Option.getD_some, startA]
  simp only [cut]
  by_cases h1 : 2 < l0.length
  · have e1 : (l0.take 2).length = 2 := by simp; omega
    by_cases h2 : 2 < m0.length
    · have e2 : (m0.take 2).length = 2 := by simp; omega
      simp (maxSteps := 4000000) (disch := (first | with_reducible rfl | assumption | with_reducible exact WB_NB _ _ | (with_reducible refine nb_le ?_; omega) | (with_reducible refine nb16_le ?_; omega) | omega | (simp only [List.length_append, List.length_map, List.length_cons, List.length_nil, List.length_set, List.length_replicate, List.length_take, List.size_toArray]; omega))) [E_Pshort, h1, h2, e1, e2]
    · rw [List.take_of_length_le (l := m0) (by omega)]
      simp (maxSteps := 4000000) (disch := (first | with_reducible rfl | assumption | with_reducible exact WB_NB _ _ | (with_reducible refine nb_le ?_; omega) | (with_reducible refine nb16_le ?_; omega) | omega | (simp only [List.length_append, List.length_map, List.length_cons, List.length_nil, List.length_set, List.length_replicate, List.length_take, List.size_toArray]; omega))) [E_Pshort, h1, h2, e1]
  · rw [List.take_of_length_le (l := l0) (by omega)]
    by_cases h2 : 2 < m0.length
    · have e2 : (m0.take 2).length = 2 := by simp; omega
      simp (maxSteps := 4000000) (disch := (first | with_reducible rfl | assumption | with_reducible exact WB_NB _ _ | (with_reducible refine nb_le ?_; omega) | (with_reducible refine nb16_le ?_; omega) | omega | (simp only [List.length_append, List.length_map, List.length_cons, List.length_nil, List.length_set, List.length_replicate, List.length_take, List.size_toArray]; omega))) [E_Pshort, h1, h2, e2]
    · rw [List.take_of_length_le (l := m0) (by omega)]
      simp (maxSteps := 4000000) (disch := (first | with_reducible rfl | assumption | with_reducible exact WB_NB _ _ | (with_reducible refine nb_le ?_; omega) | (with_reducible refine nb16_le ?_; omega) | omega | (simp only [List.length_append, List.length_map, List.length_cons, List.length_nil, List.length_set, List.length_replicate, List.length_take, List.size_toArray]; omega))) [E_Pshort, h1, h2]
theorem sPshort : GoodS (26, Pshort) := by
  intro xs r h
  simp only at h
  unfold Pshort at h
  split at h
  · obtain ⟨a0, h0, h⟩ := Option.bind_eq_some_iff.1 h
    cases h
    obtain rfl := ratX_out h0
    obtain ⟨s0, l0, m0⟩ := a0
    exact .inl <| okW_ends (mkS_ok alls_nil) mixed Try.func26 rfl (by kernel_rfl : Fits Try.prog E_Pshort.ref E_Pshort.dep Try.f26 = true) (run_Pshort _ _ _)
  · cases h
attribute [simp] Pshort
noncomputable def Pfew : List AV → Option AV
  | [x0] => (rowSU x0).bind fun a0 => some (rowS (fewS a0))
  | _ => none
noncomputable def E_Pfew : Env := mkS [(26, Pshort)] [(5, [0, 3, 4])] [(7, [([], [], false), ([], [], false), ([], [], false), ([], [], false), ([], [], false), ([], [], false), ([], [], false), ([], [], false), ([], [], false), ([], [], false), ([], [], false), ([], [], false), ([], [], false), ([], [], false), ([], [], false), ([0], [], false), ([], [], false)])]
theorem run_Pfew (r0 : List RS) : AEnds E_Pfew (finW Try.prog Try.f17.results) 0 [.code (Try.f17.body.getD .skip)] (startA Try.f17 [rowS r0] [] []) (rowS (fewS r0)) := by
  simp only [Try.f17, Option.getD_some, startA]
  unfold fewS
  by_cases h7 : (7 : Int) < (r0.length : Int)
  · have hL : 7 ≤ r0.length := by omega
    have hl := lenS r0
    have hT := takeS hL
    have h42 : 42 ≤ r0.length * 6 := by omega
    have h77 : 7 ≤ r0.length := by omega
    obtain ⟨R, hR⟩ : ∃ R, r0.take 7 = R := ⟨_, rfl⟩
    have hlen : R.length = 7 := by rw [← hR, List.length_take]; omega
    rw [hR] at hT ⊢
    unfold rowS
    simp (maxSteps := 4000000) (disch := (first | with_reducible rfl | assumption | with_reducible exact WB_NB _ _ | (with_reducible refine nb_le ?_; omega) | (with_reducible refine nb16_le ?_; omega) | omega | (simp only [List.length_append, List.length_map, List.length_cons, List.length_nil, List.length_set, List.length_replicate, List.length_take, List.size_toArray]; omega))) [E_Pfew, h7, hl, hT, h42, h77, hlen]
    clear hl hT h42 h77 hL h7 hR
    let C : Nat → AS := fun i => ⟨[.row 7 (R.flatMap cellsS), .any, .any, .own 0 0 i 6, .int .i64 i, .any, .any, .any, .any, .any, .any, .any, .any, .any, .any, .any, .any, .any, .any, .any, .any, .any, .any, .any, .any, .any, .any, .any, .any, .any, .any, .any, .any, .any], [.arr (((R.map cutS).take i).flatMap cellsS)], [false]⟩
    refine loop_up C 7 ?_ (fun i hi IH => ?_) ?_
    · simp only [E_Pfew, firstR, mkS_keep, mkQ_keep, keepT, List.find?, Nat.reduceBEq, Option.map_some, Option.getD_some]
      simp (maxSteps := 4000000) (disch := (first | with_reducible rfl | assumption | with_reducible exact WB_NB _ _ | (with_reducible refine nb_le ?_; omega) | (with_reducible refine nb16_le ?_; omega) | omega | (simp only [List.length_append, List.length_map, List.length_cons, List.length_nil, List.length_set, List.length_replicate, List.length_take, List.size_toArray]; omega))) [E_Pfew, C]
    · have hn := few_next R (show i < R.length by omega)
      have hk := chunkSX (show i < R.length by omega)
      have hk2 := chunkSY (show i < R.length by omega)
      have hl := lenS R
      rw [hlen] at hl
      have hw : wrap64 ((i : Int) + 1) = (i : Int) + 1 := w64s (by omega)
      have hi' : (i : Int) < 7 := by omega
      have h6 : i * 6 + 3 ≤ 7 * 6 := by omega
      have h7 : i * 6 + 3 + 3 ≤ 7 * 6 := by omega
      simp only [C] at IH ⊢
      rw [hn] at IH
      have lP : (((R.map cutS).take i).flatMap cellsS).length = i * 6 := by rw [lenS, List.length_take, List.length_map, hlen, Nat.min_eq_left (by omega)]
      generalize ((R.map cutS).take i).flatMap cellsS = P at *
      have tP : P.take (i * 6) = P := List.take_of_length_le (by omega)
      generalize R.flatMap cellsS = Q at *
      clear hlen
      clear C hn
      generalize sAt R i = u at *
      obtain ⟨⟨s, l, m⟩, t, p, q⟩ := u
      simp only [cellsQ] at hk hk2
      simp only [cutS, cutQ] at IH
      simp (maxSteps := 4000000) (disch := (first | with_reducible rfl | assumption | with_reducible exact WB_NB _ _ | (with_reducible refine nb_le ?_; omega) | (with_reducible refine nb16_le ?_; omega) | omega | (simp only [List.length_append, List.length_map, List.length_cons, List.length_nil, List.length_set, List.length_replicate, List.length_take, List.size_toArray]; omega))) [E_Pfew, hk, hk2, hl, hw, hi', h6, h7, lP, tP, cellsS]
      refine again_of ?_ IH
      simp only [E_Pfew, firstR, mkS_keep, mkQ_keep, keepT, List.find?, Nat.reduceBEq, Option.map_some, Option.getD_some]
      simp (maxSteps := 4000000) (disch := (first | with_reducible rfl | assumption | with_reducible exact WB_NB _ _ | (with_reducible refine nb_le ?_; omega) | (with_reducible refine nb16_le ?_; omega) | omega | (simp only [List.length_append, List.length_map, List.length_cons, List.length_nil, List.length_set, List.length_replicate, List.length_take, List.size_toArray]; omega))) [E_Pfew, cellsS]
    · have ht : (R.map cutS).take 7 = R.map cutS := List.take_of_length_le (by simp [hlen])
      have lZ : ((R.map cutS).flatMap cellsS).length = 7 * 6 := by rw [lenS, List.length_map, hlen]
      simp only [C, ht]
      generalize (R.map cutS).flatMap cellsS = Z at *
      have tZ : Z.take (7 * 6) = Z := List.take_of_length_le (by omega)
      simp (maxSteps := 4000000) (disch := (first | with_reducible rfl | assumption | with_reducible exact WB_NB _ _ | (with_reducible refine nb_le ?_; omega) | (with_reducible refine nb16_le ?_; omega) | omega | (simp only [List.length_append, List.length_map, List.length_cons, List.length_nil, List.length_set, List.length_replicate, List.length_take, List.size_toArray]; omega))) [E_Pfew, lZ, tZ, List.length_map, hlen]
  · rw [List.take_of_length_le (by omega)]
    unfold rowS
    simp (maxSteps := 4000000) (disch := (first | with_reducible rfl | assumption | with_reducible exact WB_NB _ _ | (with_reducible refine nb_le ?_; omega) | (with_reducible refine nb16_le ?_; omega) | omega | (simp only [List.length_append, List.length_map, List.length_cons, List.length_nil, List.length_set, List.length_replicate, List.length_take, List.size_toArray]; omega))) [E_Pfew, h7]
    let C : Nat → AS := fun i => ⟨[.row r0.length (r0.flatMap cellsS), .any, .any, .own 0 0 i 6, .int .i64 i, .any, .any, .any, .any, .any, .any, .any, .any, .any, .any, .any, .any, .any, .any, .any, .any, .any, .any, .any, .any, .any, .any, .any, .any, .any, .any, .any, .any, .any], [.arr (((r0.map cutS).take i).flatMap cellsS)], [false]⟩
    refine loop_up C r0.length ?_ (fun i hi IH => ?_) ?_
    · simp only [E_Pfew, firstR, mkS_keep, mkQ_keep, keepT, List.find?, Nat.reduceBEq, Option.map_some, Option.getD_some]
      simp (maxSteps := 4000000) (disch := (first | with_reducible rfl | assumption | with_reducible exact WB_NB _ _ | (with_reducible refine nb_le ?_; omega) | (with_reducible refine nb16_le ?_; omega) | omega | (simp only [List.length_append, List.length_map, List.length_cons, List.length_nil, List.length_set, List.length_replicate, List.length_take, List.size_toArray]; omega))) [E_Pfew, C]
    · have hn := few_next r0 hi
      have hk := chunkSX hi
      have hk2 := chunkSY hi
      have hl := lenS r0
      have hw : wrap64 ((i : Int) + 1) = (i : Int) + 1 := w64s (by omega)
      have hi' : (i : Int) < (r0.length : Int) := by omega
      have h6 : i * 6 + 3 ≤ r0.length * 6 := by omega
      have h7 : i * 6 + 3 + 3 ≤ r0.length * 6 := by omega
      simp only [C] at IH ⊢
      rw [hn] at IH
      have lP : (((r0.map cutS).take i).flatMap cellsS).length = i * 6 := by rw [lenS, List.length_take, List.length_map, Nat.min_eq_left (by omega)]
      generalize ((r0.map cutS).take i).flatMap cellsS = P at *
      have tP : P.take (i * 6) = P := List.take_of_length_le (by omega)
      generalize r0.flatMap cellsS = Q at *
      generalize r0.length = n at *
      clear C hn
      generalize sAt r0 i = u at *
      obtain ⟨⟨s, l, m⟩, t, p, q⟩ := u
      simp only [cellsQ] at hk hk2
      simp only [cutS, cutQ] at IH
      simp (maxSteps := 4000000) (disch := (first | with_reducible rfl | assumption | with_reducible exact WB_NB _ _ | (with_reducible refine nb_le ?_; omega) | (with_reducible refine nb16_le ?_; omega) | omega | (simp only [List.length_append, List.length_map, List.length_cons, List.length_nil, List.length_set, List.length_replicate, List.length_take, List.size_toArray]; omega))) [E_Pfew, hk, hk2, hl, hw, hi', h6, h7, lP, tP, cellsS]
      refine again_of ?_ IH
      simp only [E_Pfew, firstR, mkS_keep, mkQ_keep, keepT, List.find?, Nat.reduceBEq, Option.map_some, Option.getD_some]
      simp (maxSteps := 4000000) (disch := (first | with_reducible rfl | assumption | with_reducible exact WB_NB _ _ | (with_reducible refine nb_le ?_; omega) | (with_reducible refine nb16_le ?_; omega) | omega | (simp only [List.length_append, List.length_map, List.length_cons, List.length_nil, List.length_set, List.length_replicate, List.length_take, List.size_toArray]; omega))) [E_Pfew, cellsS]
    · have ht : (r0.map cutS).take r0.length = r0.map cutS := List.take_of_length_le (by simp)
      have lZ : ((r0.map cutS).flatMap cellsS).length = r0.length * 6 := by rw [lenS, List.length_map]
      simp only [C, ht]
      generalize (r0.map cutS).flatMap cellsS = Z at *
      have tZ : Z.take (r0.length * 6) = Z := List.take_of_length_le (by omega)
      simp (maxSteps := 4000000) (disch := (first | with_reducible rfl | assumption | with_reducible exact WB_NB _ _ | (with_reducible refine nb_le ?_; omega) | (with_reducible refine nb16_le ?_; omega) | omega | (simp only [List.length_append, List.length_map, List.length_cons, List.length_nil, List.length_set, List.length_replicate, List.length_take, List.size_toArray]; omega))) [E_Pfew, lZ, tZ, List.length_map]
theorem sPfew : GoodS (17, Pfew) := by
  intro xs r h
  simp only at h
  unfold Pfew at h
  split at h
  · obtain ⟨a0, h0, h⟩ := Option.bind_eq_some_iff.1 h
    cases h
    obtain rfl := rowSU_out h0
    exact .inl <| okW_ends (mkS_ok (alls_cons sPshort alls_nil)) mixed Try.func17 rfl (by kernel_rfl : Fits Try.prog E_Pfew.ref E_Pfew.dep Try.f17 = true) (run_Pfew _)
  · cases h
attribute [simp] Pfew
end Go.Proofs.Ytofklpmlgfbmlaa.ZRat
namespace Go.Proofs.Ytofklpmlgfbmlaa.ZRat
open Go.RowKit Go.Proofs.Ytofklpmlgfbmlaa.Wd
open Go Go.Proofs.Ytofklpmlgfbmlaa.Ab Go.Proofs Go.Proofs.Ytofklpmlgfbmlaa.Num Go.Proofs.Ytofklpmlgfbmlaa.ZRatP
set_option linter.unusedSimpArgs false
set_option linter.unusedVariables false
set_option maxHeartbeats 8000000
set_option maxRecDepth 100000
/-- Digits as words. -/
def pairW : List Int → List Int
  | [] => []
  | [x] => [x]
  | x :: y :: r => (x + 65536 * y) :: pairW r
theorem pairW_app : ∀ (k : Nat) (a b : List Int), a.length = 2 * k → pairW (a ++ b) = pairW a ++ pairW b
  | 0, a, b, h => by
    have : a = [] := List.length_eq_zero_iff.1 (by omega)
    subst this; rfl
  | k + 1, [], b, h => by simp at h
  | k + 1, [x], b, h => by simp at h; omega
  | k + 1, x :: y :: r, b, h => by
    simp only [List.cons_append, pairW]
    rw [pairW_app k r b (by simp at h; omega)]
theorem pairW_len : ∀ (k : Nat) (a : List Int), a.length = 2 * k → (pairW a).length = k
  | 0, a, h => by
    have : a = [] := List.length_eq_zero_iff.1 (by omega)
    subst this; rfl
  | k + 1, [], h => by simp at h
  | k + 1, [x], h => by simp at h; omega
  | k + 1, x :: y :: r, h => by
    simp only [pairW, List.length_cons]
    rw [pairW_len k r (by simp at h; omega)]
theorem pairW_NB : ∀ (n : Nat), pairW (NB 65536 n) = NB 4294967296 n := by
  intro n
  induction n using Nat.strongRecOn with
  | _ n ih =>
    rcases Nat.eq_zero_or_pos n with h | h
    · subst h; rw [NB_zero, NB_zero]; rfl
    · rw [NB_pos (b := 4294967296) (by omega) h, NB_pos (b := 65536) (by omega) h]
      rcases Nat.eq_zero_or_pos (n / 65536) with h1 | h1
      · rw [h1, NB_zero]
        have e : n / 4294967296 = 0 := by omega
        have e2 : n % 4294967296 = n % 65536 := by omega
        rw [e, NB_zero, e2]; rfl
      · rw [NB_pos (b := 65536) (by omega) h1]
        simp only [pairW]
        have e : n / 65536 / 65536 = n / 4294967296 := by omega
        rw [e, ih _ (by omega)]
        congr 1
        omega
theorem pairW_half : ∀ (a : List Int), (pairW a).length = (a.length + 1) / 2
  | [] => rfl
  | [x] => by simp [pairW]
  | x :: y :: r => by
    simp only [pairW, List.length_cons]
    rw [pairW_half r]; omega
theorem getE {L : List AV} {i : Nat} {x : AV} (h : L[i]? = some x) : ∀ q, L[i]'q = x := fun q => (List.getElem?_eq_some_iff.1 h).2
theorem w32 {x : Int} (h : 0 ≤ x) (h1 : x < 4294967296) : IntKind.u32.wrap x = x := by
  have e : IntKind.u32.wrap x = x % 4294967296 := by unfold IntKind.wrap; simp [IntKind.bits, IntKind.signed]
  rw [e]; omega
theorem getD_take (D : List Int) (i : Nat) (x : Int) (h : D[i]? = some x) : D.take (i + 1) = D.take i ++ [x] := by
  rw [List.take_add_one, h]; rfl
theorem WB_get {D : List Int} (h : WB 65536 D) {i : Nat} {x : Int} (hx : D[i]? = some x) : 0 ≤ x ∧ x < 65536 := h x (List.mem_of_getElem? hx)
noncomputable def Pwords : List AV → Option AV
  | [x0] => (digD 60 x0).bind fun a0 => some (natA a0)
  | _ => none
noncomputable def E_Pwords : Env := mkS [] [(3, [0, 3, 4])] []
theorem run_Pwords (a0 : Nat) (b0 : (NB 65536 a0).length ≤ 60) : AEnds E_Pwords (finW Try.prog Try.f67.results) 0 [.code (Try.f67.body.getD .skip)] (startA Try.f67 [digA a0] [] []) (natA a0) := by
  haveI := SzN.dig b0
  simp only [Try.f67, Option.getD_some, startA]
  have hDl : (NB 65536 a0).length ≤ 60 := b0
  have hA : digA a0 = .row (NB 65536 a0).length ((NB 65536 a0).map (.int .i64)) := rfl
  have hW := WB_NB 65536 a0
  have hN := pairW_NB a0
  rw [hA]
  unfold natA
  rw [← hN]
  clear b0
  generalize NB 65536 a0 = D at *
  clear hN hA
  have hl : (D.map (AV.int .i64)).length = D.length := List.length_map _
  unfold rowI
  simp (maxSteps := 4000000) (disch := (first | with_reducible rfl | assumption | with_reducible exact WB_NB _ _ | (with_reducible refine nb_le ?_; omega) | (with_reducible refine nb16_le ?_; omega) | omega | (simp only [List.length_append, List.length_map, List.length_cons, List.length_nil, List.length_set, List.length_replicate, List.length_take, List.size_toArray]; omega))) [E_Pwords, hl]
  let C : Nat → AS := fun i => ⟨[.row D.length (D.map (.int .i64)), .any, .any, .own 0 0 i 1, .int .i64 ((2 * i : Nat) : Int), .any, .any, .any, .any, .any, .any, .any, .any, .any, .any, .any, .any, .any, .any, .any, .any, .any, .any, .any, .any, .any, .any, .any, .any, .any, .any, .any, .any, .any, .any, .any], [.arr ((pairW (D.take (2 * i))).map (.int .u32))], [false]⟩
  refine loop_up C ((D.length + 1) / 2) ?_ (fun i hi IH => ?_) ?_
  · simp only [E_Pwords, firstR, mkS_keep, mkQ_keep, keepT, List.find?, Nat.reduceBEq, Option.map_some, Option.getD_some]
    simp (maxSteps := 4000000) (disch := (first | with_reducible rfl | assumption | with_reducible exact WB_NB _ _ | (with_reducible refine nb_le ?_; omega) | (with_reducible refine nb16_le ?_; omega) | omega | (simp only [List.length_append, List.length_map, List.length_cons, List.length_nil, List.length_set, List.length_replicate, List.length_take, List.size_toArray]; omega))) [E_Pwords, C, pairW]
  · have lT : (D.take (2 * i)).length = 2 * i := by rw [List.length_take]; omega
    have lP := pairW_len i _ lT
    obtain ⟨x, hx⟩ : ∃ x, D[2 * i]? = some x := ⟨_, List.getElem?_eq_getElem (show 2 * i < D.length by omega)⟩
    have bx := WB_get hW hx
    have hx' : (D.map (AV.int .i64))[2 * i]? = some (.int .i64 x) := by rw [List.getElem?_map, hx]; rfl
    have tx := getD_take D _ x hx
    have hb : 2 * i < D.length := by omega
    simp only [C] at IH ⊢
    rw [show 2 * (i + 1) = 2 * i + 1 + 1 by omega] at IH
    clear C
    by_cases hy0 : 2 * i + 1 < D.length
    · obtain ⟨y, hy⟩ : ∃ y, D[2 * i + 1]? = some y := ⟨_, List.getElem?_eq_getElem hy0⟩
      have bY := WB_get hW hy
      have hy' : (D.map (AV.int .i64))[2 * i + 1]? = some (.int .i64 y) := by rw [List.getElem?_map, hy]; rfl
      have eP : pairW (D.take (2 * i + 1 + 1)) = pairW (D.take (2 * i)) ++ [x + 65536 * y] := by
        rw [getD_take D _ y hy, tx, List.append_assoc, pairW_app i _ _ lT]; rfl
      rw [eP] at IH
      generalize hj : 2 * i = j at *
      generalize pairW (D.take j) = P at *
      have hw : wrap64 ((j : Int) + 1) = ((j + 1 : Nat) : Int) := by rw [w64in _ (by omega) (by omega)]; omega
      have hw2 : wrap64 ((j : Int) + 2) = ((j + 1 + 1 : Nat) : Int) := by rw [w64in _ (by omega) (by omega)]; omega
      have hw3 : wrap64 (65536 * y) = 65536 * y := w64in _ (by omega) (by omega)
      have hw4 : wrap64 (x + 65536 * y) = x + 65536 * y := w64in _ (by omega) (by omega)
      have hw5 : IntKind.u32.wrap (x + 65536 * y) = x + 65536 * y := w32 (by omega) (by omega)
      have hi1 : (j : Int) < (D.length : Int) := by omega
      have hi2 : ((j + 1 : Nat) : Int) < (D.length : Int) := by omega
      have g1 := getE hx'
      have g2 := getE hy'
      have lM : (P.map (AV.int .u32)).length = i := by rw [List.length_map, lP]
      have lP' : P.length = i := lP
      have tP : (P.map (AV.int .u32)).take i = P.map (.int .u32) := List.take_of_length_le (by omega)
      generalize D.map (AV.int .i64) = M at *
      generalize hn : D.length = n at *
      clear hx hy tx eP lT hW bx bY hj lP
      simp (maxSteps := 4000000) (disch := (first | with_reducible rfl | assumption | with_reducible exact WB_NB _ _ | (with_reducible refine nb_le ?_; omega) | (with_reducible refine nb16_le ?_; omega) | omega | (simp only [List.length_append, List.length_map, List.length_cons, List.length_nil, List.length_set, List.length_replicate, List.length_take, List.size_toArray]; omega))) [E_Pwords, hl, hx', hy', g1, g2, hw, hw2, hw3, hw4, hw5, hi1, hi2, hb, hy0, lM, lP', tP]
      refine again_of ?_ IH
      simp only [E_Pwords, firstR, mkS_keep, mkQ_keep, keepT, List.find?, Nat.reduceBEq, Option.map_some, Option.getD_some]
      simp (maxSteps := 4000000) (disch := (first | with_reducible rfl | assumption | with_reducible exact WB_NB _ _ | (with_reducible refine nb_le ?_; omega) | (with_reducible refine nb16_le ?_; omega) | omega | (simp only [List.length_append, List.length_map, List.length_cons, List.length_nil, List.length_set, List.length_replicate, List.length_take, List.size_toArray]; omega))) [E_Pwords, lP']
    · have hlast : D.take (2 * i + 1 + 1) = D.take (2 * i + 1) := by rw [List.take_of_length_le (by omega), List.take_of_length_le (by omega)]
      have eP : pairW (D.take (2 * i + 1 + 1)) = pairW (D.take (2 * i)) ++ [x] := by
        rw [hlast, tx, pairW_app i _ _ lT]; rfl
      rw [eP] at IH
      generalize hj : 2 * i = j at *
      generalize pairW (D.take j) = P at *
      have hw : wrap64 ((j : Int) + 1) = ((j + 1 : Nat) : Int) := by rw [w64in _ (by omega) (by omega)]; omega
      have hw2 : wrap64 ((j : Int) + 2) = ((j + 1 + 1 : Nat) : Int) := by rw [w64in _ (by omega) (by omega)]; omega
      have hw5 : IntKind.u32.wrap x = x := w32 (by omega) (by omega)
      have hi1 : (j : Int) < (D.length : Int) := by omega
      have hi2 : ¬ ((j + 1 : Nat) : Int) < (D.length : Int) := by omega
      have g1 := getE hx'
      have lM : (P.map (AV.int .u32)).length = i := by rw [List.length_map, lP]
      have lP' : P.length = i := lP
      have tP : (P.map (AV.int .u32)).take i = P.map (.int .u32) := List.take_of_length_le (by omega)
      generalize D.map (AV.int .i64) = M at *
      generalize hn : D.length = n at *
      clear hx tx eP lT hW bx hj lP hlast
      simp (maxSteps := 4000000) (disch := (first | with_reducible rfl | assumption | with_reducible exact WB_NB _ _ | (with_reducible refine nb_le ?_; omega) | (with_reducible refine nb16_le ?_; omega) | omega | (simp only [List.length_append, List.length_map, List.length_cons, List.length_nil, List.length_set, List.length_replicate, List.length_take, List.size_toArray]; omega))) [E_Pwords, hl, hx', g1, hw, hw2, hw5, hi1, hi2, hb, hy0, lM, lP', tP]
      refine again_of ?_ IH
      simp only [E_Pwords, firstR, mkS_keep, mkQ_keep, keepT, List.find?, Nat.reduceBEq, Option.map_some, Option.getD_some]
      simp (maxSteps := 4000000) (disch := (first | with_reducible rfl | assumption | with_reducible exact WB_NB _ _ | (with_reducible refine nb_le ?_; omega) | (with_reducible refine nb16_le ?_; omega) | omega | (simp only [List.length_append, List.length_map, List.length_cons, List.length_nil, List.length_set, List.length_replicate, List.length_take, List.size_toArray]; omega))) [E_Pwords, lP']
  · have ht : D.take (2 * ((D.length + 1) / 2)) = D := List.take_of_length_le (by omega)
    have hP : (pairW D).length = (D.length + 1) / 2 := pairW_half D
    have hlt : ¬ ((2 * ((D.length + 1) / 2) : Nat) : Int) < (D.length : Int) := by omega
    simp only [C, ht]
    generalize pairW D = P at *
    rw [← hP] at hlt ⊢
    have tP : (P.map (AV.int .u32)).take P.length = P.map (.int .u32) := List.take_of_length_le (by simp)
    generalize 2 * P.length = j at *
    simp (maxSteps := 4000000) (disch := (first | with_reducible rfl | assumption | with_reducible exact WB_NB _ _ | (with_reducible refine nb_le ?_; omega) | (with_reducible refine nb16_le ?_; omega) | omega | (simp only [List.length_append, List.length_map, List.length_cons, List.length_nil, List.length_set, List.length_replicate, List.length_take, List.size_toArray]; omega))) [E_Pwords, hlt, tP]
theorem sPwords : GoodS (67, Pwords) := by
  intro xs r h
  simp only at h
  unfold Pwords at h
  split at h
  · obtain ⟨a0, h0, h⟩ := Option.bind_eq_some_iff.1 h
    cases h
    obtain ⟨rfl, b0⟩ := digD_out h0
    exact .inl <| okW_ends (mkS_ok alls_nil) mixed Try.func67 rfl (by kernel_rfl : Fits Try.prog E_Pwords.ref E_Pwords.dep Try.f67 = true) (run_Pwords _ b0)
  · cases h
attribute [simp] Pwords
end Go.Proofs.Ytofklpmlgfbmlaa.ZRat
namespace Go.Proofs.Ytofklpmlgfbmlaa.ZRat
open Go.RowKit Go.Proofs.Ytofklpmlgfbmlaa.Wd
open Go Go.Proofs.Ytofklpmlgfbmlaa.Ab Go.Proofs Go.Proofs.Ytofklpmlgfbmlaa.Num Go.Proofs.Ytofklpmlgfbmlaa.ZRatP
set_option linter.unusedSimpArgs false
set_option linter.unusedVariables false
set_option maxHeartbeats 8000000
set_option maxRecDepth 100000
open Classical in
noncomputable def RSame9 : List AV → Option AV
  | [x, y] => (spotRD 100000 y).bind fun p => if p.1.2 = 0 ∨ p.2.2 = 0 then none else if x = spotA (mkRat p.1.1 p.1.2.natAbs) (mkRat p.2.1 p.2.2.natAbs) then some (.bool true) else none
  | _ => none
theorem plusE (z : Int) (d : Nat) (n : Int) : mkRat (rn z d + n * rD d) (rD d).natAbs = mkRat z d + (n : Rat) := by
  have h := addE (n1 := rn z d) (n2 := n) (d1 := rD d) (d2 := 1) (rD_pos d) (by omega)
  rw [Int.mul_one, Int.mul_one, canonE] at h
  rw [h]
  congr 1
  rw [Rat.mkRat_eq_div]; simp; grind
theorem sgnLt (z : Int) : (z.sign < 0) = (z < 0) := sign_lt z
def sq1 (x y : Int) : RS := ((false, [x], [1]), (false, [y], [1]))
def sqr : List RS := [sq1 0 0, sq1 2 0, sq1 2 2, sq1 0 2]
theorem sqr_ok : ∀ p ∈ sqr, okS 9 p := by
  intro p hp
  simp only [sqr, List.mem_cons, List.not_mem_nil, or_false] at hp
  rcases hp with rfl | rfl | rfl | rfl <;> simp [okS, okQ, sq1, WB_cons, WB_nil]
theorem sqr_area : areaQ (sqr.map valS) = 8 := by decide +kernel
theorem sqr_cent : centQ (sqr.map valS) = (1, 1) := by decide +kernel
theorem sqr_in : insideB (sqr.map valS) (1, 1) = true := by decide +kernel
theorem sqr_out : insideB (sqr.map valS) (3, 1) = false := by decide +kernel
theorem sqr_row : rowSD 9 8 (.row 4 [.bool false, .row 1 [.int .u32 0], .row 1 [.int .u32 1], .bool false, .row 1 [.int .u32 0], .row 1 [.int .u32 1], .bool false, .row 1 [.int .u32 2], .row 1 [.int .u32 1], .bool false, .row 1 [.int .u32 0], .row 1 [.int .u32 1], .bool false, .row 1 [.int .u32 2], .row 1 [.int .u32 1], .bool false, .row 1 [.int .u32 2], .row 1 [.int .u32 1], .bool false, .row 1 [.int .u32 0], .row 1 [.int .u32 1], .bool false, .row 1 [.int .u32 2], .row 1 [.int .u32 1]]) = some sqr := rowSD_row sqr_ok (by decide)
theorem lv8 : rn 8 1 = 8 ∧ rD 1 = 1 ∧ rn 1 1 = 1 ∧ mkRat 8 1 = 8 ∧ mkRat 1 1 = 1 ∧ mkRat 3 1 = 3 := by decide +kernel
theorem rl8 : rintC 10000 (.int .i64 (Int.sign 8)) (.row (NB 65536 8).length ((NB 65536 8).map (.int .i64))) = some 8 := rlit 8 (Nat.le_trans (NB_length_le (by omega) _ 1 (by decide)) (by omega))
theorem NBd (n : Nat) (h0 : 0 < n) (h : n < 10) : NB 10 n = [(n : Int)] := by
  rw [NB_pos (by omega) h0, Nat.mod_eq_of_lt h, Nat.div_eq_of_lt h, NB_zero]
theorem show8 : showP 8 1 = (⟨#[56]⟩ : ByteArray) := by
  unfold showP showZ showS decS
  rw [if_pos (by omega), if_neg (by omega), show (8 : Int).natAbs = 8 from rfl, if_neg (by omega), NBd 8 (by omega) (by omega)]
  rfl
theorem show1 : showP 1 1 = (⟨#[49]⟩ : ByteArray) := by
  unfold showP showZ showS decS
  rw [if_pos (by omega), if_neg (by omega), show (1 : Int).natAbs = 1 from rfl, if_neg (by omega), NBd 1 (by omega) (by omega)]
  rfl
noncomputable def E_RSame9 : Env := mkS [(18, FSame)] [] []
theorem run_RSame9 (n0 d0 m0 e0 : Int) (b0 : ((NB 65536 n0.natAbs).length ≤ 100000 ∧ (NB 65536 d0.natAbs).length ≤ 100000) ∧ (NB 65536 m0.natAbs).length ≤ 100000 ∧ (NB 65536 e0.natAbs).length ≤ 100000) (hd : ¬ d0 = 0) (he : ¬ e0 = 0) : AEnds E_RSame9 (finW Try.prog Try.f25.results) 0 [.code (Try.f25.body.getD .skip)] (startA Try.f25 [spotA (mkRat n0 d0.natAbs) (mkRat m0 e0.natAbs), spotRA n0 d0 m0 e0] [] []) (.bool true) := by
  haveI := SzI.dig b0.1.1
  haveI := SzI.dig b0.1.2
  haveI := SzI.dig b0.2.1
  haveI := SzI.dig b0.2.2
  simp only [Try.f25, Option.getD_some, startA]
  simp (maxSteps := 4000000) (disch := (first | with_reducible rfl | assumption | with_reducible exact WB_NB _ _ | (with_reducible refine nb_le ?_; omega) | (with_reducible refine nb16_le ?_; omega) | omega | (simp only [List.length_append, List.length_map, List.length_cons, List.length_nil, List.length_set, List.length_replicate, List.length_take, List.size_toArray]; omega))) [E_RSame9, hd, he, ratA, -Int.sign_mul, -Int.sign_neg, -Int.natAbs_neg]
theorem sRSame9 : GoodS (25, RSame9) := by
  intro xs r h
  simp only at h
  unfold RSame9 at h
  split at h
  · obtain ⟨⟨⟨n, d⟩, m, e⟩, h1, h⟩ := Option.bind_eq_some_iff.1 h
    split at h
    · cases h
    rename_i hc
    simp only [not_or] at hc
    split at h
    · rename_i hx
      cases h
      obtain ⟨rfl, b⟩ := spotRD_out h1
      subst hx
      exact .inl <| okW_ends (mkS_ok (alls_cons sFSame alls_nil)) mixed Try.func25 rfl (by kernel_rfl : Fits Try.prog E_RSame9.ref E_RSame9.dep Try.f25 = true) (run_RSame9 _ _ _ _ b hc.1 hc.2)
    · cases h
  · cases h
attribute [simp] RSame9
noncomputable def Pplus : List AV → Option AV
  | [x0, x1] => (ratP 2 x0).bind fun a0 => (unN .i64 x1).bind fun a1 => if -2147483648 ≤ a1 ∧ a1 ≤ 2147483647 then some (ratA (mkRat a0.1 a0.2 + (a1 : Rat))) else none
  | _ => none
noncomputable def E_Pplus : Env := mkS [(32, FOf), (34, FLong), (33, FAdd), (50, FLow), (67, Pwords)] [] []
theorem run_Pplus (s0 : Bool) (l0 m0 : List Int) (w0 : WB 4294967296 l0) (b0 : l0.length ≤ 2) (v0 : WB 4294967296 m0) (c0 : m0.length ≤ 2) (a1 : Int) (hc : -2147483648 ≤ a1 ∧ a1 ≤ 2147483647) : AEnds E_Pplus (finW Try.prog Try.f30.results) 0 [.code (Try.f30.body.getD .skip)] (startA Try.f30 [.agg [.bool s0, rowI .u32 l0, rowI .u32 m0], .int .i64 a1] [] []) (ratA (mkRat (IVal s0 l0) (VB 4294967296 m0) + (a1 : Rat))) := by
  haveI := SzI.val (neg := s0) w0 b0
  haveI := SzN.val v0 c0
  simp only [Try.f30, Option.getD_some, startA]
  obtain ⟨h1, h2⟩ := hc
  have hr : -9223372036854775808 ≤ a1 ∧ a1 < 9223372036854775808 := by omega
  haveI : SzI a1 1 := ⟨by omega⟩
  have e := plusE (IVal s0 l0) (VB 4294967296 m0) a1
  haveI hz : SzQ (mkRat (IVal s0 l0) (VB 4294967296 m0) + (a1 : Rat)) 8 := by
    have h : SzQ (mkRat (IVal s0 l0) (VB 4294967296 m0) + (a1 : Rat)) _ := inferInstance
    exact h.up (by decide)
  generalize mkRat (IVal s0 l0) (VB 4294967296 m0) + (a1 : Rat) = q at *
  simp (maxSteps := 4000000) (disch := (first | with_reducible rfl | assumption | with_reducible exact WB_NB _ _ | (with_reducible refine nb_le ?_; omega) | (with_reducible refine nb16_le ?_; omega) | omega | (simp only [List.length_append, List.length_map, List.length_cons, List.length_nil, List.length_set, List.length_replicate, List.length_take, List.size_toArray]; omega))) [E_Pplus, hr, e, rDne, sgnLt, rden, den_ne, -Int.sign_mul, -Int.sign_neg, -Int.natAbs_neg]
theorem sPplus : GoodS (30, Pplus) := by
  intro xs r h
  simp only at h
  unfold Pplus at h
  split at h
  · obtain ⟨a0, h0, h⟩ := Option.bind_eq_some_iff.1 h
    obtain ⟨a1, h1, h⟩ := Option.bind_eq_some_iff.1 h
    split at h
    · rename_i hc
      cases h
      obtain ⟨s0, l0, m0, rfl, w0, b0, v0, c0, rfl⟩ := ratP_out h0
      obtain rfl := unN_eq h1
      exact .inl <| okW_ends (mkS_ok (alls_cons sFOf (alls_cons sFLong (alls_cons sFAdd (alls_cons sFLow (alls_cons sPwords alls_nil)))))) mixed Try.func30 rfl (by kernel_rfl : Fits Try.prog E_Pplus.ref E_Pplus.dep Try.f30 = true) (run_Pplus _ _ _ w0 b0 v0 c0 _ hc)
    · cases h
  · cases h
attribute [simp] Pplus
noncomputable def L20lives : List AV → Option AV
  | [] => some (.bool true)
  | _ => none
noncomputable def E_L20lives : Env := mkS [(53, Pat), (23, PCent), (19, PArea2), (32, FOf), (54, FShow), (27, PInside)] [] []
theorem run_L20lives  : AEnds E_L20lives (finW Try.prog Try.f22.results) 0 [.code (Try.f22.body.getD .skip)] (startA Try.f22 [] [] []) (.bool true) := by
  simp only [Try.f22, Option.getD_some, startA]
  haveI : SzN 8 1 := ⟨by decide⟩
  haveI : SzI 8 1 := ⟨by decide⟩
  simp (maxSteps := 4000000) (disch := (first | with_reducible rfl | assumption | with_reducible exact WB_NB _ _ | (with_reducible refine nb_le ?_; omega) | (with_reducible refine nb16_le ?_; omega) | omega | (simp only [List.length_append, List.length_map, List.length_cons, List.length_nil, List.length_set, List.length_replicate, List.length_take, List.size_toArray]; omega))) [E_L20lives, sqr_row, sqr_area, sqr_cent, sqr_in, sqr_out, show8, show1, lv8, rl8]
theorem sL20lives : GoodS (22, L20lives) := by
  intro xs r h
  simp only at h
  unfold L20lives at h
  split at h
  · skip
    cases h
    exact .inl <| okW_ends (mkS_ok (alls_cons sPat (alls_cons sPCent (alls_cons sPArea2 (alls_cons sFOf (alls_cons sFShow (alls_cons sPInside alls_nil))))))) mixed Try.func22 rfl (by kernel_rfl : Fits Try.prog E_L20lives.ref E_L20lives.dep Try.f22 = true) (run_L20lives )
  · cases h
attribute [simp] L20lives
end Go.Proofs.Ytofklpmlgfbmlaa.ZRat
namespace Go.Proofs.Ytofklpmlgfbmlaa.ZRat
open Go.RowKit Go.Proofs.Ytofklpmlgfbmlaa.Wd
open Go Go.Proofs.Ytofklpmlgfbmlaa.Ab Go.Proofs Go.Proofs.Ytofklpmlgfbmlaa.Num Go.Proofs.Ytofklpmlgfbmlaa.ZRatP
set_option linter.unusedSimpArgs false
set_option linter.unusedVariables false
set_option maxHeartbeats 8000000
set_option maxRecDepth 100000
def wbQ (r : RQ) : Prop := WB 4294967296 r.2.1 ∧ WB 4294967296 r.2.2
def wbS (p : RS) : Prop := wbQ p.1 ∧ wbQ p.2
theorem cut_ok {p : RS} (h : wbS p) : okS 2 (cutS p) :=
  ⟨⟨⟨WB_cut h.1.1 2, cut_le 2 _⟩, WB_cut h.1.2 2, cut_le 2 _⟩, ⟨WB_cut h.2.1 2, cut_le 2 _⟩, WB_cut h.2.2 2, cut_le 2 _⟩
theorem few_ok {r : List RS} (w : ∀ p ∈ r, wbS p) : (∀ p ∈ fewS r, okS 2 p) ∧ (fewS r).length ≤ 7 := by
  unfold fewS
  refine ⟨fun p hp => ?_, by rw [List.length_map, List.length_take]; omega⟩
  obtain ⟨q, hq, rfl⟩ := List.mem_map.1 hp
  exact cut_ok (w q (List.mem_of_mem_take hq))
theorem val_ok {p : RS} (h : okS 2 p) : okP 5 (valS p) := ⟨h.1.sz, h.2.sz⟩
theorem vals_ok {R : List RS} (h : ∀ p ∈ R, okS 2 p) : ∀ p ∈ R.map valS, okP 5 p := fun p hp => by
  obtain ⟨q, hq, rfl⟩ := List.mem_map.1 hp
  exact val_ok (h q hq)
theorem rn_den (q : Rat) : rn q.num q.den = q.num := by unfold rn; rw [if_neg q.den_nz]
theorem rD_den (q : Rat) : rD q.den = (q.den : Int) := by unfold rD; rw [if_neg q.den_nz]
theorem rowU (r : List RS) : rowSU (.row r.length (r.flatMap cellsS)) = some r := rowSU_row r
theorem row9 {R : List RS} {L : Nat} (h : ∀ p ∈ R, okS L p) (hl : R.length ≤ 8) (hL : L ≤ 9) : rowSD 9 8 (.row R.length (R.flatMap cellsS)) = some R := rowSD_row (fun p hp => (h p hp).up hL) hl
theorem rowG {R : List RS} (h : ∀ p ∈ R, okS 2 p) (hl : R.length ≤ 8) : rowRD 5 8 (.row R.length ((R.map valS).flatMap cellsR)) = some (R.map valS) := by
  have := rowRD_row (vals_ok h) (by rw [List.length_map]; exact hl)
  unfold rowR at this
  rwa [List.length_map] at this
theorem areaW {R : List RS} (h : ∀ p ∈ R, okS 2 p) (hl : R.length ≤ 8) : SzQ (areaQ (R.map valS)) 177 := by
  have h := area_sz h R.length (Nat.le_refl _)
  unfold areaQ
  rw [List.length_map]
  exact h.up (by omega)
theorem centW {R : List RS} (h : ∀ p ∈ R, okS 2 p) (hl : R.length ≤ 8) : SzQ (centQ (R.map valS)).1 443 ∧ SzQ (centQ (R.map valS)).2 443 := by
  have hA := areaW h hl
  have hX : SzQ (sumX (R.map valS)) 265 := by
    have := sum_szS (fun _ _ => momX_sz) h R.length (Nat.le_refl _)
    unfold sumX
    rw [List.length_map]
    exact this.up (by omega)
  have hY : SzQ (sumY (R.map valS)) 265 := by
    have := sum_szS (fun _ _ => momY_sz) h R.length (Nat.le_refl _)
    unfold sumY
    rw [List.length_map]
    exact this.up (by omega)
  haveI : SzQ (3 : Rat) 1 := ⟨by decide, by decide⟩
  unfold centQ
  exact ⟨(inferInstance : SzQ (sumX (R.map valS) / (3 * areaQ (R.map valS))) _), (inferInstance : SzQ (sumY (R.map valS) / (3 * areaQ (R.map valS))) _)⟩
end Go.Proofs.Ytofklpmlgfbmlaa.ZRat
