/- The law FileLongest, told of bytes. -/
import Derived.Test.YtgpepiefojjkaaaPtH
import Derived.Test.YtgpepiefojjkaaaPtM
import Derived.Test.YtgpepiefojjkaaaZFilx13
namespace Go.Proofs.Ytgpepiefojjkaaa.Pt
open Go.RowKit Go.Proofs.YtgpepiefojjkaaaW.PrintWords Go.Proofs.YtgpepiefojjkaaaW.PrintLast Go.Proofs.YtgpepiefojjkaaaW.PrintMore Go.Proofs.Ytgpepiefojjkaaa.ZFil
set_option linter.unusedVariables false
set_option linter.unusedSimpArgs false
section
variable {α β : Type} (mk : List Int → α) (mkf : List Int → β)
theorem file_go (t : List Int) : (fileS mk mkf t).2.2.2 = if (headS t).2.2 = true then goF t (t.length + 1) true (headS t).2.1 else (headS t).2 := by
  unfold fileS
  simp only
  rcases headS t with ⟨c1, c2, c3⟩
  simp only
  cases c3
  · rw [if_neg Bool.false_ne_true, lineS_false]
    simp only [sitesS]
    rw [if_neg (by decide), facesS_stop mkf _ _ _ _ _ _ (by show (-1 : Int) ≠ 1; decide)]
  · rw [if_pos rfl]
    exact sites_go mk mkf t (t.length + 1) [] c2
theorem mesh_default (t y : List Int) (h : t = meshW ++ y) : rwS t [meshW] 0 true = (0, 5, true) := by
  subst h
  unfold rwS
  rw [if_pos rfl, List.drop_zero]
  simp only [wordsS]
  rw [if_pos (cpl_app _ _)]
  rfl
theorem mesh_ok (t : List Int) (q : Int) (n : Nat) (h : rwS t [meshW] 0 true = (q, n, true)) : n = 5 ∧ t = meshW ++ t.drop 5 ∧ q = 0 := by
  unfold rwS at h
  rw [if_pos rfl, List.drop_zero] at h
  simp only [wordsS] at h
  split at h
  · rename_i e
    simp only [Prod.mk.injEq] at h
    exact ⟨h.2.1.symm.trans (Nat.zero_add _), cpl_pre _ _ e, h.1.symm⟩
  · simp at h
theorem mesh_bad (t : List Int) (q : Int) (n : Nat) (h : rwS t [meshW] 0 true = (q, n, false)) : n < 5 ∧ t.take n = meshW.take n ∧ n ≤ t.length := by
  unfold rwS at h
  rw [if_pos rfl, List.drop_zero] at h
  simp only [wordsS] at h
  have h1 := cpl_le1 t meshW
  have h2 := cpl_le2 t meshW
  split at h
  · simp at h
  · rename_i e
    simp only [Prod.mk.injEq] at h
    have en : n = cpl t meshW := by omega
    subst en
    refine ⟨?_, (cpl_ge _ _ _ h1 h2).1 (Nat.le_refl _), h1⟩
    have : meshW.length = 5 := rfl
    omega
theorem file_comp (t : List Int) (p : Nat) (h : (fileS mk mkf t).2.2.2 = (p, false)) : ∃ c ∈ CL, (fileS mk mkf (t.take p ++ c)).2.2.2 = ((t.take p ++ c).length, true) := by
  have hp := fileS_le mk mkf t
  rw [h] at hp
  simp only at hp
  have lenT : (t.take p).length = p := by rw [List.length_take]; omega
  rw [file_go] at h
  have hd : headS t = chainS t (threeL false [10]) [] (rwS t [meshW] 0 true).2.1 (rwS t [meshW] 0 true).2.2 := rfl
  -- behind a head that stands
  have fin : ∀ (t' : List Int) (m : Nat), t' = meshW ++ t'.drop 5 → (chainS t' (threeL false [10]) [] 5 true).2 = (m, true) → goF t' (t'.length + 1) true m = (t'.length, true) → (fileS mk mkf t').2.2.2 = (t'.length, true) := by
    intro t' m h1 h2 h3
    have e : (headS t').2 = (m, true) := by
      unfold headS
      rw [mesh_default t' _ h1]
      exact h2
    rw [file_go, e]
    simp only
    rw [if_pos trivial]
    exact h3
  have meshT : ∀ c : List Int, 5 ≤ p → t = meshW ++ t.drop 5 → t.take p ++ c = meshW ++ (t.take p ++ c).drop 5 := by
    intro c h5 ht
    have e1 : (t.take p ++ c).take 5 = meshW := by
      rw [List.take_append_of_le_length (by omega), List.take_take, Nat.min_eq_left h5, ht]
      rfl
    conv => lhs; rw [← List.take_append_drop 5 (t.take p ++ c)]
    rw [e1]
  rcases hq : rwS t [meshW] 0 true with ⟨q, n, ok⟩
  rw [hq] at hd
  simp only at hd
  cases ok
  · obtain ⟨b1, b2, b3⟩ := mesh_bad t q n hq
    have e := chainS_false t (threeL false [10]) [] n
    rw [← hd] at e
    rw [e] at h
    simp only at h
    rw [if_neg Bool.false_ne_true] at h
    obtain rfl : n = p := by injection h
    refine ⟨_, CL_mesh n b1, ?_⟩
    have et : t.take n ++ (meshW.drop n ++ (txtL (threeL false [10]) ++ endW)) = meshW ++ (txtL (threeL false [10]) ++ endW) := by
      rw [b2, ← List.append_assoc, List.take_append_drop]
    rw [et]
    refine fin _ _ rfl (chain_default _ _ (okThree false).2 [] 5 endW rfl) ?_
    exact go_end _ _ true _ (by decide) rfl
  · obtain ⟨b1, b2, b3⟩ := mesh_ok t q n hq
    subst b1
    have l5 : 5 ≤ t.length := by
      rw [b2, List.length_append]
      have : meshW.length = 5 := rfl
      omega
    rcases hc : (headS t).2 with ⟨m, ok2⟩
    have hc2 : (chainS t (threeL false [10]) [] 5 true).2 = (m, ok2) := by rw [← hd]; exact hc
    have e1 := chainS_ge t (threeL false [10]) [] 5 true
    have e2 := chainS_le t (threeL false [10]) [] 5 true l5
    rw [hc2] at e1 e2
    simp only at e1 e2
    rw [hc] at h
    simp only at h
    cases ok2
    · rw [if_neg Bool.false_ne_true] at h
      obtain rfl : m = p := by injection h
      obtain ⟨c0, hm0, hc0⟩ := chain_comp t _ (okThree false).2 [] 5 m hc2 l5
      refine ⟨c0 ++ endW, CL_three c0 hm0, ?_⟩
      refine fin _ _ (meshT _ e1 b2) (hc0 endW []) (go_end _ _ true _ (by rw [List.length_append, lenT, List.length_append]; omega) ?_)
      rw [show m + c0.length = (t.take m ++ c0).length from by rw [List.length_append, lenT], ← List.append_assoc, List.drop_left]
    · rw [if_pos rfl] at h
      have hmp := go_le t (t.length + 1) true m e2
      rw [h] at hmp
      simp only at hmp
      obtain ⟨c, hm, hcc⟩ := go_comp t (t.length + 1) true m p e2 (by omega) h
      refine ⟨c, hm, ?_⟩
      refine fin _ m (meshT _ (by omega) b2) (chain_ext t _ _ (okThree false).2 [] [] 5 m hc2 l5 ?_) (hcc _ (by omega))
      rw [List.take_append_of_le_length (by omega), List.take_take, Nat.min_eq_left (by omega)]
end
theorem bytes_app (s w : ByteArray) : bytesOf (s ++ w) = bytesOf s ++ bytesOf w := by simp [bytesOf]
theorem resF_err (t : List Int) : (resF mkS mkF t).2.2.2.2.2.2 = if (fileS mkS mkF t).2.2.2 = (t.length, true) then 0 else 17 := by
  unfold resF
  by_cases e : (fileS mkS mkF t).2.2.2.2 = true ∧ (fileS mkS mkF t).2.2.2.1 = t.length
  · rw [if_pos e, if_pos (Prod.ext e.2 e.1)]
  · rw [if_neg e, if_neg (fun g => e (by rw [g]; exact ⟨rfl, rfl⟩))]
theorem ends_l0 (s : ByteArray) (hs : s.size < 1000000) (L : List ByteArray) (hL : ∀ w ∈ L, w.size < 1000) (hn : L.length < 1000) : ∀ (d j : Nat), L.length - j = d → j ≤ L.length → (∃ w ∈ L.drop j, (resF mkS mkF (bytesOf s ++ bytesOf w)).2.2.2.2.2.2 = 0) → Ev (fun k => zelligelaw24_ends.l0 k s L (j : Int)) true := by
  intro d
  induction d with
  | zero =>
    intro j hd hj h
    obtain ⟨w, hw, _⟩ := h
    rw [List.drop_of_length_le (by omega)] at hw
    cases hw
  | succ d ih =>
    intro j hd hj h
    have hj' : j < L.length := by omega
    have hwz := hL _ (List.getElem_mem hj')
    have hf := FParse_f (s ++ L[j]) (by simp; omega)
    rw [bytes_app] at hf
    refine Ev.step (f := fun k => (file_Parse.f k (s ++ L[j])).bind fun b => if b.2.2.2.2.2.2 = 0 then some true else zelligelaw24_ends.l0 k s L ((j + 1 : Nat) : Int)) (fun k => ?_) (Ev.bind hf ?_)
    · show zelligelaw24_ends.l0 (k + 1) _ _ _ = _
      simp only [zelligelaw24_ends.l0]
      rw [if_pos (by omega), if_pos (by omega), rdOf_nat L j hj', if_pos (by omega), wsz j (by omega)]
    · by_cases e : (resF mkS mkF (bytesOf s ++ bytesOf L[j])).2.2.2.2.2.2 = 0
      · exact Ev.congr (fun k => if_pos e) (Ev.now _)
      · refine Ev.congr (fun k => if_neg e) (ih (j + 1) (by omega) (by omega) ?_)
        obtain ⟨w, hw, hw2⟩ := h
        rw [List.drop_eq_getElem_cons hj'] at hw
        rcases List.mem_cons.1 hw with rfl | hw
        · exact absurd hw2 e
        · exact ⟨w, hw, hw2⟩
def EL : List ByteArray := ([(⟨#[]⟩ : ByteArray), (⟨#[109, 101, 115, 104, 32, 49, 32, 49, 32, 49, 10, 101, 110, 100, 10]⟩ : ByteArray), (⟨#[101, 115, 104, 32, 49, 32, 49, 32, 49, 10, 101, 110, 100, 10]⟩ : ByteArray), (⟨#[115, 104, 32, 49, 32, 49, 32, 49, 10, 101, 110, 100, 10]⟩ : ByteArray), (⟨#[104, 32, 49, 32, 49, 32, 49, 10, 101, 110, 100, 10]⟩ : ByteArray), (⟨#[32, 49, 32, 49, 32, 49, 10, 101, 110, 100, 10]⟩ : ByteArray), (⟨#[49, 32, 49, 32, 49, 10, 101, 110, 100, 10]⟩ : ByteArray), (⟨#[32, 49, 32, 49, 10, 101, 110, 100, 10]⟩ : ByteArray), (⟨#[49, 32, 49, 10, 101, 110, 100, 10]⟩ : ByteArray), (⟨#[32, 49, 10, 101, 110, 100, 10]⟩ : ByteArray), (⟨#[49, 10, 101, 110, 100, 10]⟩ : ByteArray), (⟨#[10, 101, 110, 100, 10]⟩ : ByteArray), (⟨#[101, 110, 100, 10]⟩ : ByteArray), (⟨#[110, 100, 10]⟩ : ByteArray), (⟨#[100, 10]⟩ : ByteArray), (⟨#[10]⟩ : ByteArray), (⟨#[105, 116, 101, 32, 49, 32, 49, 32, 49, 10, 101, 110, 100, 10]⟩ : ByteArray), (⟨#[116, 101, 32, 49, 32, 49, 32, 49, 10, 101, 110, 100, 10]⟩ : ByteArray), (⟨#[101, 32, 49, 32, 49, 32, 49, 10, 101, 110, 100, 10]⟩ : ByteArray), (⟨#[97, 99, 101, 32, 49, 32, 49, 32, 49, 32, 49, 32, 49, 32, 49, 32, 49, 32, 49, 32, 49, 10, 101, 110, 100, 10]⟩ : ByteArray), (⟨#[99, 101, 32, 49, 32, 49, 32, 49, 32, 49, 32, 49, 32, 49, 32, 49, 32, 49, 32, 49, 10, 101, 110, 100, 10]⟩ : ByteArray), (⟨#[101, 32, 49, 32, 49, 32, 49, 32, 49, 32, 49, 32, 49, 32, 49, 32, 49, 32, 49, 10, 101, 110, 100, 10]⟩ : ByteArray), (⟨#[32, 49, 32, 49, 32, 49, 32, 49, 32, 49, 32, 49, 32, 49, 32, 49, 32, 49, 10, 101, 110, 100, 10]⟩ : ByteArray), (⟨#[49, 32, 49, 32, 49, 32, 49, 32, 49, 32, 49, 32, 49, 32, 49, 32, 49, 10, 101, 110, 100, 10]⟩ : ByteArray), (⟨#[32, 49, 32, 49, 32, 49, 32, 49, 32, 49, 32, 49, 32, 49, 32, 49, 10, 101, 110, 100, 10]⟩ : ByteArray), (⟨#[49, 32, 49, 32, 49, 32, 49, 32, 49, 32, 49, 32, 49, 32, 49, 10, 101, 110, 100, 10]⟩ : ByteArray), (⟨#[32, 49, 32, 49, 32, 49, 32, 49, 32, 49, 32, 49, 32, 49, 10, 101, 110, 100, 10]⟩ : ByteArray), (⟨#[49, 32, 49, 32, 49, 32, 49, 32, 49, 32, 49, 32, 49, 10, 101, 110, 100, 10]⟩ : ByteArray), (⟨#[32, 49, 32, 49, 32, 49, 32, 49, 32, 49, 32, 49, 10, 101, 110, 100, 10]⟩ : ByteArray), (⟨#[49, 32, 49, 32, 49, 32, 49, 32, 49, 32, 49, 10, 101, 110, 100, 10]⟩ : ByteArray), (⟨#[32, 49, 32, 49, 32, 49, 32, 49, 32, 49, 10, 101, 110, 100, 10]⟩ : ByteArray), (⟨#[49, 32, 49, 32, 49, 32, 49, 32, 49, 10, 101, 110, 100, 10]⟩ : ByteArray), (⟨#[32, 49, 32, 49, 32, 49, 32, 49, 10, 101, 110, 100, 10]⟩ : ByteArray), (⟨#[49, 32, 49, 32, 49, 32, 49, 10, 101, 110, 100, 10]⟩ : ByteArray)] : List ByteArray)
/-- A beginning that goes on. -/
theorem ends_f (s : ByteArray) (hs : s.size < 1000000) (h : ∃ c ∈ CL, (resF mkS mkF (bytesOf s ++ c)).2.2.2.2.2.2 = 0) : Ev (fun k => zelligelaw24_ends.f k s) true := by
  refine show Ev (fun k => zelligelaw24_ends.l0 k s EL ((0 : Nat) : Int)) true from ?_
  refine ends_l0 s hs EL (by decide) (by decide) _ 0 rfl (Nat.zero_le _) ?_
  rw [List.drop_zero]
  obtain ⟨c, hc, h2⟩ := h
  have e : CL = List.map bytesOf EL := by rfl
  rw [e] at hc
  obtain ⟨w, hw, rfl⟩ := List.mem_map.1 hc
  exact ⟨w, hw, h2⟩
end Go.Proofs.Ytgpepiefojjkaaa.Pt
namespace Go.Proofs.Ytgpepiefojjkaaa.Pure
open Go.RowKit Go.Proofs.YtgpepiefojjkaaaW.PrintWords Go.Proofs.YtgpepiefojjkaaaW.PrintLast Go.Proofs.YtgpepiefojjkaaaW.PrintMore Go.Proofs.Ytgpepiefojjkaaa.ZFil Go.Proofs.Ytgpepiefojjkaaa.Pt
theorem begin_ends (s : ByteArray) (hs : s.size < 1000000) (p : Nat) (ok : Bool) (h : (fileS mkS mkF (bytesOf s)).2.2.2 = (p, ok)) (t : ByteArray) (ht : bytesOf t = (bytesOf s).take p) (htz : t.size ≤ s.size) : Ev (fun k => zelligelaw24_ends.f k t) true := by
  refine ends_f t (by omega) ?_
  rw [ht]
  cases ok
  · obtain ⟨c, hc, h2⟩ := file_comp mkS mkF (bytesOf s) p h
    exact ⟨c, hc, by rw [resF_err, if_pos h2]⟩
  · refine ⟨[], by simp [CL], ?_⟩
    have hp := fileS_le mkS mkF (bytesOf s)
    rw [List.append_nil, resF_err, fileS_take mkS mkF (bytesOf s) p (by rw [h]; exact Nat.le_refl _), h, if_pos]
    rw [h] at hp
    rw [List.length_take, Nat.min_eq_left hp]
theorem FLongest_j0 (s : ByteArray) (hs : s.size < 1000000) : Ev (fun k => zelligelaw24_FileLongest.j0 k s) true := by
  have lv : Ev (fun k => (zelligelaw24_lives.f k).bind fun t => some t) true := Ev.bind flives_f (Ev.now true)
  have lb := bytesOf_length s
  have h1 := FParse_f s (by omega)
  have hp := fileS_le mkS mkF (bytesOf s)
  rcases hr : (fileS mkS mkF (bytesOf s)).2.2.2 with ⟨p, ok⟩
  rw [hr] at hp
  simp only at hp
  refine Ev.step (f := fun k => (file_Parse.f k s).bind fun b => if b.2.2.2.2.2.2 = 0 then (if b.2.2.2.2.2.1 = 0 then (zelligelaw24_lives.f k).bind fun t => some t else some false) else if 0 ≤ b.2.2.2.2.2.1 then (if b.2.2.2.2.2.1 ≤ (s.size : Int) then (file_Parse.f k (s.extract 0 (b.2.2.2.2.2.1 : Int).toNat)).bind fun b2 => if b.2.2.2.2.2.1 < 0 then zelligelaw24_FileLongest.j1 k s b.2.2.2.2.2.1 true else if b.2.2.2.2.2.1 > (s.size : Int) then zelligelaw24_FileLongest.j1 k s b.2.2.2.2.2.1 true else if b2.2.2.2.2.2.2 = 0 then (if b.2.2.2.2.2.1 = (s.size : Int) then zelligelaw24_FileLongest.j1 k s b.2.2.2.2.2.1 true else zelligelaw24_FileLongest.j1 k s b.2.2.2.2.2.1 false) else zelligelaw24_FileLongest.j1 k s b.2.2.2.2.2.1 (b2.2.2.2.2.2.1 != b.2.2.2.2.2.1) else none) else none) (fun k => ?_) (Ev.bind h1 ?_)
  · show zelligelaw24_FileLongest.j0 (k + 1) _ = _
    simp only [zelligelaw24_FileLongest.j0]
  · by_cases h0 : ok = true ∧ p = (bytesOf s).length
    · have e : resF mkS mkF (bytesOf s) = ((fileS mkS mkF (bytesOf s)).1.getD 0 0, (fileS mkS mkF (bytesOf s)).1.getD 1 0, (fileS mkS mkF (bytesOf s)).1.getD 2 0, (fileS mkS mkF (bytesOf s)).2.1, (fileS mkS mkF (bytesOf s)).2.2.1, 0, 0) := by
        unfold resF
        rw [hr, if_pos h0]
      rw [e]
      exact Ev.congr (fun k => by rw [if_pos rfl, if_pos rfl]) lv
    · have e : resF mkS mkF (bytesOf s) = (0, 0, 0, [], [], (p : Int), 17) := by
        unfold resF
        rw [hr, if_neg h0]
      have hb := bytesOf_length (s.extract 0 p)
      rw [bytes_to, List.length_take] at hb
      have h2 := FParse_f (s.extract 0 p) (by omega)
      rw [bytes_to] at h2
      have e2 : resF mkS mkF ((bytesOf s).take p) = if ok = true then ((fileS mkS mkF (bytesOf s)).1.getD 0 0, (fileS mkS mkF (bytesOf s)).1.getD 1 0, (fileS mkS mkF (bytesOf s)).1.getD 2 0, (fileS mkS mkF (bytesOf s)).2.1, (fileS mkS mkF (bytesOf s)).2.2.1, 0, 0) else (0, 0, 0, [], [], (p : Int), 17) := by
        unfold resF
        rw [fileS_take mkS mkF (bytesOf s) p (by rw [hr]; exact Nat.le_refl _), hr]
        simp only
        rw [List.length_take, Nat.min_eq_left hp]
        cases ok
        · rw [if_neg (fun e => Bool.false_ne_true e.1), if_neg Bool.false_ne_true]
        · rw [if_pos ⟨rfl, rfl⟩, if_pos rfl]
      have j1 : Ev (fun k => zelligelaw24_FileLongest.j1 k s (p : Int) false) true := by
        by_cases hc : p = s.size
        · have en := begin_ends s hs p ok hr s (by rw [List.take_of_length_le (by omega)]) (Nat.le_refl _)
          refine Ev.step (f := fun k => (zelligelaw24_ends.f k s).bind fun t => if t = true then (zelligelaw24_lives.f k).bind fun t => some t else some false) (fun k => ?_) (Ev.bind en (Ev.congr (fun k => if_pos rfl) lv))
          show zelligelaw24_FileLongest.j1 (k + 1) _ _ _ = _
          simp only [zelligelaw24_FileLongest.j1]
          rw [if_neg Bool.false_ne_true, if_pos (by omega)]
        · have hb3 := bytesOf_length (s.extract 0 (p + 1))
          rw [bytes_to, List.length_take] at hb3
          have h3 := FParse_f (s.extract 0 (p + 1)) (by omega)
          rw [bytes_to] at h3
          have e3 : resF mkS mkF ((bytesOf s).take (p + 1)) = (0, 0, 0, [], [], (p : Int), 17) := by
            unfold resF
            rw [fileS_take mkS mkF (bytesOf s) (p + 1) (by rw [hr]; exact Nat.le_succ _), hr]
            simp only
            rw [if_neg (by rw [List.length_take]; omega)]
          rw [e3] at h3
          have en := begin_ends s hs p ok hr (s.extract 0 p) (bytes_to s p) (by omega)
          refine Ev.step (f := fun k => (file_Parse.f k (s.extract 0 (p + 1))).bind fun b => if b.2.2.2.2.2.1 = (p : Int) then (if b.2.2.2.2.2.2 = 17 then (zelligelaw24_ends.f k (s.extract 0 p)).bind fun t => if t = true then (zelligelaw24_lives.f k).bind fun t => some t else some false else some false) else some false) (fun k => ?_) (Ev.bind h3 (Ev.congr (fun k => by rw [if_pos rfl, if_pos rfl]) (Ev.bind en (Ev.congr (fun k => if_pos rfl) lv))))
          show zelligelaw24_FileLongest.j1 (k + 1) _ _ _ = _
          simp only [zelligelaw24_FileLongest.j1]
          rw [if_neg Bool.false_ne_true, if_neg (by omega), wsz p (by omega), if_pos (by omega), if_pos (by omega), if_pos (by omega), if_pos (by omega), Int.toNat_natCast, Int.toNat_natCast]
      rw [e]
      refine Ev.congr (fun k => ?c2) (Ev.bind (f := fun k b2 => if b2.2.2.2.2.2.2 = 0 then (if (p : Int) = (s.size : Int) then zelligelaw24_FileLongest.j1 k s (p : Int) true else zelligelaw24_FileLongest.j1 k s (p : Int) false) else zelligelaw24_FileLongest.j1 k s (p : Int) (b2.2.2.2.2.2.1 != (p : Int))) h2 ?d2)
      case c2 =>
        simp only
        rw [if_neg (by decide), if_pos (by omega), if_pos (by omega), Int.toNat_natCast]
        congr 1
        funext b2
        rw [if_neg (by omega), if_neg (by omega)]
      case d2 =>
        rw [e2]
        cases ok
        · refine Ev.congr (fun k => ?_) j1
          rw [if_neg Bool.false_ne_true]
          simp only
          rw [if_neg (by decide), bne_self_eq_false]
        · refine Ev.congr (fun k => ?_) j1
          have hne : ¬ p = (bytesOf s).length := fun e => h0 ⟨rfl, e⟩
          rw [if_pos rfl, if_pos rfl, if_neg (by omega)]
theorem FileLongest : zelligelaw24_FileLongest.Pure := by
  intro a0 h
  refine Ev.rounds (show Ev (fun k => zelligelaw24_FileLongest.f k a0) true from ?_)
  unfold zelligelaw24_FileLongest.f
  by_cases hc : (a0.size : Int) > 600
  · have hb := bytesOf_length (a0.extract 0 600)
    rw [bytes_to, List.length_take, bytesOf_length] at hb
    refine Ev.congr (fun k => ?_) (FLongest_j0 (a0.extract 0 600) (by omega))
    rw [if_pos hc, if_pos (by omega), if_pos (by omega)]
  · exact Ev.congr (fun k => if_neg hc) (FLongest_j0 a0 (by omega))
end Go.Proofs.Ytgpepiefojjkaaa.Pure
