/- The law FileParses, told of bytes: both read a text as one mesh. -/
import Derived.Test.YtgpepiefojjkaaaPtI
import Derived.Test.YtgpepiefojjkaaaZFilx12
namespace Go.Proofs.Ytgpepiefojjkaaa.Pt
open Go.RowKit Go.Proofs.YtgpepiefojjkaaaW.PrintWords Go.Proofs.YtgpepiefojjkaaaW.PrintLast Go.Proofs.YtgpepiefojjkaaaW.PrintMore Go.Proofs.Ytgpepiefojjkaaa.ZFil
set_option linter.unusedVariables false
set_option linter.unusedSimpArgs false

theorem res_fin (s : ByteArray) : resF mkS mkF (bytesOf s) = finF ((fileS mkS mkF (bytesOf s)).1.getD 0 0, (fileS mkS mkF (bytesOf s)).1.getD 1 0, (fileS mkS mkF (bytesOf s)).1.getD 2 0) s.size (fileS mkS mkF (bytesOf s)).2.1 (fileS mkS mkF (bytesOf s)).2.2 := by
  unfold resF finF
  rw [bytesOf_length]
theorem RFParse_f (s : ByteArray) (hs : s.size < 1099511627776) : Ev (fun k => zelligeref24_Parse.f k s) (resF mkS mkF (bytesOf s)) := by
  have lb := bytesOf_length s
  have hw := RWords_f s hs 0 (Nat.zero_le _) [(⟨#[109, 101, 115, 104, 32]⟩ : ByteArray)] (by simp) (by decide)
  rw [show [(⟨#[109, 101, 115, 104, 32]⟩ : ByteArray)].map bytesOf = [meshW] from rfl] at hw
  have g1 : W3 0 (wordsS ((bytesOf s).drop 0) [meshW] 0 0) = W2 (rwS (bytesOf s) [meshW] 0 true) := rfl
  rw [g1] at hw
  have hq := rwS_le (bytesOf s) [meshW] 0 true (Nat.zero_le _)
  have hl := headS_le (bytesOf s)
  have hd : headS (bytesOf s) = chainS (bytesOf s) (threeL false [10]) [] (rwS (bytesOf s) [meshW] 0 true).2.1 (rwS (bytesOf s) [meshW] 0 true).2.2 := rfl
  rw [res_fin]
  unfold fileS
  simp only
  rw [lb]
  have stop : ∀ (a k : Nat) (n : Int × Int × Int), finF n s.size (sitesS mkS mkF (bytesOf s) k [] (lineS (bytesOf s) true a false).1 (lineS (bytesOf s) true a false).2.1 (lineS (bytesOf s) true a false).2.2).1 (sitesS mkS mkF (bytesOf s) k [] (lineS (bytesOf s) true a false).1 (lineS (bytesOf s) true a false).2.1 (lineS (bytesOf s) true a false).2.2).2 = (0, 0, 0, [], [], (a : Int), 17) := by
    intro a k n
    have e7 : lineS (bytesOf s) true a false = (-1, a, false) := rfl
    rw [e7]
    have e8 : sitesS mkS mkF (bytesOf s) k [] (-1) a false = ([], [], a, false) := by
      cases k with
      | zero => rfl
      | succ k => simp only [sitesS]; rw [if_neg (by decide), facesS_stop mkF _ _ _ _ _ _ (by decide)]
    simp only [e8]
    rw [finF_false]
  generalize hqq : rwS (bytesOf s) [meshW] 0 true = q at *
  obtain ⟨q1, q2, q3⟩ := q
  simp only at hq hd
  unfold zelligeref24_Parse.f
  refine Ev.bind hw ?_
  simp only [W2]
  cases q3
  · have e : (headS (bytesOf s)).2 = (q2, false) := by rw [hd]; exact chainS_false _ _ _ _
    rw [show (headS (bytesOf s)).2.1 = q2 from by rw [e], show (headS (bytesOf s)).2.2 = false from by rw [e], stop]
    exact Ev.congr (fun k => if_neg Bool.false_ne_true) (Ev.now _)
  · refine Ev.congr (fun k => if_pos rfl) ?_
    obtain ⟨li, n3, hli⟩ := nums3 s hs q2 (by omega)
    have hlen := chainS_len (bytesOf s) (threeL false [10]) [] q2 true
    rw [← hd] at n3 hli hlen
    generalize headS (bytesOf s) = c at *
    obtain ⟨c1, c2, c3⟩ := c
    simp only at n3 hli hlen hl ⊢
    refine Ev.bind n3 ?_
    cases c3
    · rw [stop]
      exact Ev.congr (fun k => if_neg Bool.false_ne_true) (Ev.now _)
    · have e := hli rfl
      subst e
      have h9 : li.length = 3 := hlen
      refine Ev.congr (fun k => ?_) (RSites s hs (li.getD 0 0, li.getD 1 0, li.getD 2 0) (s.size + 1) c2 [] (by omega) (by omega) (by simp))
      simp only
      rw [if_pos trivial, if_pos (by omega), if_pos (by omega), if_pos (by omega)]
      rfl
theorem FSame_f (n : Int × Int × Int) (l : List S41) (f : List S50) (h : l.length < 1099511627776) (hf : f.length < 1099511627776) : Ev (fun k => zelligeref24_Same.f k n.1 n.2.1 n.2.2 l f n.1 n.2.1 n.2.2 l f) true := by
  have go : ∀ (d i : Nat), f.length - i = d → i ≤ f.length → Ev (fun k => zelligeref24_Same.l0 k (i : Int) n.1 n.2.1 n.2.2 l f n.1 n.2.1 n.2.2 l f) true := by
    intro d
    induction d with
    | zero =>
      intro i hd hi
      refine Ev.step (f := fun _ => some true) (fun k => ?_) (Ev.now _)
      show zelligeref24_Same.l0 (k + 1) _ _ _ _ _ _ _ _ _ _ _ = _
      simp only [zelligeref24_Same.l0]
      rw [if_neg (by omega)]
    | succ d ih =>
      intro i hd hi
      refine Ev.step (fun k => ?_) (ih (i + 1) (by omega) (by omega))
      show zelligeref24_Same.l0 (k + 1) _ _ _ _ _ _ _ _ _ _ _ = _
      simp only [zelligeref24_Same.l0]
      rw [if_pos (by omega), if_pos (by omega), if_pos (by omega), wsz i (by omega)]
      simp
  unfold zelligeref24_Same.f
  refine Ev.congr (fun k => ?_) (Ev.bind (f := fun k t => if t = true then zelligeref24_Same.j0 k ((f.length : Int) != (f.length : Int)) n.1 n.2.1 n.2.2 l f n.1 n.2.1 n.2.2 l f else zelligeref24_Same.j0 k true n.1 n.2.1 n.2.2 l f n.1 n.2.1 n.2.2 l f) (Same_f l h) ?_)
  · rw [if_pos rfl, if_pos rfl, if_pos rfl]
  · refine Ev.congr (fun k => if_pos rfl) (Ev.step (fun k => ?_) (go _ 0 rfl (Nat.zero_le _)))
    show zelligeref24_Same.j0 (k + 1) _ _ _ _ _ _ _ _ _ _ _ = _
    simp only [zelligeref24_Same.j0]
    rw [bne_self_eq_false, if_neg Bool.false_ne_true]
    rfl
theorem faces_len (t : List Int) (k : Nat) (acc : List S50) (q : Int) (a : Nat) (ok : Bool) (ha : a ≤ t.length) (h : acc.length ≤ a) (h1 : q = 1 → acc.length + 1 ≤ a) : (facesS mkF t k acc q a ok).1.length ≤ (facesS mkF t k acc q a ok).2.1 := by
  induction k generalizing acc q a ok with
  | zero => exact h
  | succ k ih =>
    simp only [facesS]
    split
    · rename_i e
      have g1 := chainS_ge t nineL [] a ok
      have g2 := chainS_le t nineL [] a ok ha
      have g3 := lineS_ge t false (chainS t nineL [] a ok).2.1 (chainS t nineL [] a ok).2.2
      have g4 := lineS_le t false _ (chainS t nineL [] a ok).2.2 g2
      have st := line_more t false _ (chainS t nineL [] a ok).2.2 _ rfl g2
      have h2 := h1 e
      refine ih _ _ _ _ g4 ?_ (fun e2 => ?_)
      · rw [List.length_append]; simp; omega
      · have := st (.inl e2)
        rw [List.length_append]; simp; omega
    · exact h
theorem sites_len (t : List Int) (k : Nat) (acc : List S41) (q : Int) (a : Nat) (ok : Bool) (ha : a ≤ t.length) (h : acc.length ≤ a) (h1 : q = 0 ∨ q = 1 → acc.length + 1 ≤ a) : (sitesS mkS mkF t k acc q a ok).1.length ≤ t.length ∧ (sitesS mkS mkF t k acc q a ok).2.1.length ≤ t.length := by
  induction k generalizing acc q a ok with
  | zero => exact ⟨by show acc.length ≤ _; omega, by show ([] : List S50).length ≤ _; simp⟩
  | succ k ih =>
    simp only [sitesS]
    split
    · rename_i e
      have g1 := chainS_ge t (threeL false [10]) [] a ok
      have g2 := chainS_le t (threeL false [10]) [] a ok ha
      have g3 := lineS_ge t true (chainS t (threeL false [10]) [] a ok).2.1 (chainS t (threeL false [10]) [] a ok).2.2
      have g4 := lineS_le t true _ (chainS t (threeL false [10]) [] a ok).2.2 g2
      have st := line_more t true _ (chainS t (threeL false [10]) [] a ok).2.2 _ rfl g2
      have h2 := h1 (.inl e)
      refine ih _ _ _ _ g4 ?_ (fun e2 => ?_)
      · rw [List.length_append]; simp; omega
      · have := st (e2.symm.imp id (fun h => ⟨rfl, h⟩))
        rw [List.length_append]; simp; omega
    · have g := faces_len t (k + 1) [] q a ok ha (by simp) (fun e => by have := h1 (.inr e); simp; omega)
      have g2 := facesS_le mkF t (k + 1) [] q a ok ha
      exact ⟨by show acc.length ≤ _; omega, by show (facesS mkF t (k + 1) [] q a ok).1.length ≤ _; omega⟩
theorem resF_len (t : List Int) : (resF mkS mkF t).2.2.2.1.length ≤ t.length ∧ (resF mkS mkF t).2.2.2.2.1.length ≤ t.length := by
  unfold resF
  split
  · have hl := headS_le t
    have g4 := lineS_le t true _ (headS t).2.2 hl
    have st := line_more t true _ (headS t).2.2 _ rfl hl
    exact sites_len t (t.length + 1) [] _ _ _ g4 (by simp) (fun e => by have := st (e.symm.imp id (fun h => ⟨rfl, h⟩)); simp; omega)
  · simp
end Go.Proofs.Ytgpepiefojjkaaa.Pt
namespace Go.Proofs.Ytgpepiefojjkaaa.Pure
open Go.RowKit Go.Proofs.YtgpepiefojjkaaaW.PrintWords Go.Proofs.YtgpepiefojjkaaaW.PrintLast Go.Proofs.YtgpepiefojjkaaaW.PrintMore Go.Proofs.Ytgpepiefojjkaaa.ZFil Go.Proofs.Ytgpepiefojjkaaa.Pt
theorem FParses_j0 (s : ByteArray) (hs : s.size < 1099511627776) : Ev (fun k => zelligelaw24_FileParses.j0 k s) true := by
  have lb := bytesOf_length s
  obtain ⟨hl, hf⟩ := resF_len (bytesOf s)
  have h1 := FParse_f s hs
  have h2 := RFParse_f s hs
  generalize resF mkS mkF (bytesOf s) = r at *
  have h3 := FSame_f (r.1, r.2.1, r.2.2.1) r.2.2.2.1 r.2.2.2.2.1 (by omega) (by omega)
  refine Ev.step (f := fun k => (file_Parse.f k s).bind fun p => (zelligeref24_Parse.f k s).bind fun q => (zelligeref24_Same.f k p.1 p.2.1 p.2.2.1 p.2.2.2.1 p.2.2.2.2.1 q.1 q.2.1 q.2.2.1 q.2.2.2.1 q.2.2.2.2.1).bind fun t => if t = true then (if p.2.2.2.2.2.1 = q.2.2.2.2.2.1 then (if p.2.2.2.2.2.2 = q.2.2.2.2.2.2 then (zelligelaw24_lives.f k).bind fun t => some t else some false) else some false) else some false) (fun k => ?_) (Ev.bind h1 (Ev.bind h2 (Ev.bind h3 (Ev.congr (fun k => ?_) (Ev.bind flives_f (Ev.now true))))))
  · show zelligelaw24_FileParses.j0 (k + 1) _ = _
    simp only [zelligelaw24_FileParses.j0]
  · rw [if_pos rfl, if_pos rfl, if_pos rfl]
theorem FileParses : zelligelaw24_FileParses.Pure := by
  intro a0 h
  refine Ev.rounds (show Ev (fun k => zelligelaw24_FileParses.f k a0) true from ?_)
  unfold zelligelaw24_FileParses.f
  by_cases hc : (a0.size : Int) > 600
  · have hb := bytesOf_length (a0.extract 0 600)
    rw [bytes_to, List.length_take, bytesOf_length] at hb
    refine Ev.congr (fun k => ?_) (FParses_j0 (a0.extract 0 600) (by omega))
    rw [if_pos hc, if_pos (by omega), if_pos (by omega)]
  · exact Ev.congr (fun k => if_neg hc) (FParses_j0 a0 (by omega))
end Go.Proofs.Ytgpepiefojjkaaa.Pure
