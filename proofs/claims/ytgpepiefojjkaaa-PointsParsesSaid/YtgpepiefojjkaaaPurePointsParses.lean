/- What the printed reference's parser of sites comes to, told of bytes; the law PointsParses. -/
import Derived.Test.YtgpepiefojjkaaaPtE
import Derived.Test.YtgpepiefojjkaaaZPtsx7
namespace Go.Proofs.Ytgpepiefojjkaaa.Pt
open Go.RowKit Go.Proofs.YtgpepiefojjkaaaW.PrintWords Go.Proofs.YtgpepiefojjkaaaW.PrintLast Go.Proofs.YtgpepiefojjkaaaW.PrintMore Go.Proofs.Ytgpepiefojjkaaa.ZPts
set_option linter.unusedVariables false
set_option linter.unusedSimpArgs false

theorem numU_bad (b : Bool) (t : List Int) (h : (numU b t).2.2 = false) : (numU b t).1 = 0 := by
  cases t with
  | nil => rfl
  | cons c cs =>
    simp only [numU] at h ⊢
    split
    · rfl
    · rename_i g
      rw [if_neg g] at h
      split
      · rfl
      · rename_i g2
        rw [if_neg g2] at h
        cases h
theorem numS_bad (b : Bool) (t : List Int) (h : (numS b t).2.2 = false) : (numS b t).1 = 0 := by
  cases t with
  | nil => rfl
  | cons c cs =>
    simp only [numS] at h ⊢
    split
    · rename_i g
      rw [if_pos g] at h
      exact numU_bad _ _ h
    · rename_i g
      rw [if_neg g] at h
      exact numU_bad _ _ h
/-- A place, told as it is. -/
def W2 (r : Int × Nat × Bool) : Int × Int × Bool := (r.1, ((r.2.1 : Nat) : Int), r.2.2)
theorem Take_f (s : ByteArray) (hs : s.size < 1099511627776) (b : Bool) (a : Nat) (ha : a ≤ s.size) (w : ByteArray) (hw : w.size < 1000) : Ev (fun k => zelligeref23_Take.f k s (a : Int) b w) (W2 (rnS (bytesOf s) b (bytesOf w) a true)) := by
  have h1 := numS_le b ((bytesOf s).drop a)
  have h2 := drop_len s a
  have h3 := numS_bad b ((bytesOf s).drop a)
  have hf := RNumber_f s hs b a ha
  unfold zelligeref23_Take.f rnS
  rw [if_pos rfl]
  generalize numS b ((bytesOf s).drop a) = x at *
  obtain ⟨x1, x2, x3⟩ := x
  simp only at h1 h3
  refine Ev.bind hf ?_
  simp only [W3]
  cases x3
  · refine Ev.congr (f := fun _ => some _) (fun k => if_neg Bool.false_ne_true) ?_
    rw [h3 rfl]
    exact Ev.now _
  · refine Ev.congr (fun k => if_pos rfl) (Ev.bind (RWords_f s hs (a + x2) (by omega) [w] (by simp) (by intro y hy; rw [List.mem_singleton.1 hy]; exact hw)) ?_)
    exact Ev.now _
theorem loopS_false {α : Type} (mk : Int × Int × Int → α) (t : List Int) (d : Nat) (acc : List α) (a : Nat) : loopS mk t d acc a false = (acc, a, false) := by
  cases d with
  | zero => rfl
  | succ d => rfl
theorem loopS_acc {α : Type} (mk : Int × Int × Int → α) (t : List Int) (d : Nat) (acc : List α) (a : Nat) (ok : Bool) (h : acc.length ≤ a) : (loopS mk t d acc a ok).1.length ≤ (loopS mk t d acc a ok).2.1 := by
  induction d generalizing acc a ok with
  | zero => exact h
  | succ d ih =>
    simp only [loopS]
    have h1 := rwS_ge t [siteW, endW] a ok
    split
    · rename_i e
      obtain ⟨e1, e2, e3, e4⟩ := site_step t a ok e
      have g := roundS_ge t (rwS t [siteW, endW] a ok).2.1 (rwS t [siteW, endW] a ok).2.2
      refine ih _ _ _ ?_
      rw [List.length_append]
      simp only [List.length_cons, List.length_nil]
      omega
    · simp only
      omega
theorem RParse_bad (s : ByteArray) (n : Int) (acc : List S41) (a : Nat) : Ev (fun k => zelligeref23_Parse.l0 k s [] acc (a : Int) false n) (0, [], (a : Int), 17) := by
  refine Ev.step (f := fun _ => some _) (fun k => ?_) (Ev.now _)
  show zelligeref23_Parse.l0 (k + 1) _ _ _ _ _ _ = _
  simp only [zelligeref23_Parse.l0]
  rw [if_neg Bool.false_ne_true]
theorem finS_false (n : Int) (m : Nat) (acc : List S41) (a : Nat) : finS n m (acc, a, false) = (0, [], (a : Int), 17) := by
  unfold finS
  rw [if_neg (fun e => Bool.false_ne_true e.1)]
theorem RParse_j2bad (s : ByteArray) (n : Int) (acc : List S41) (ha : acc.length < 5864062014805) (a : Nat) (x y z : Int) : Ev (fun k => zelligeref23_Parse.j2 k s [] acc (a : Int) false n x y z) (0, [], (a : Int), 17) := by
  refine Ev.step (fun k => ?_) (RParse_bad s n (acc ++ [⟨x, y, z⟩]) a)
  show zelligeref23_Parse.j2 (k + 1) _ _ _ _ _ _ _ _ _ = _
  simp only [zelligeref23_Parse.j2]
  rw [if_neg Bool.false_ne_true, if_pos ha]
theorem rnS_false (t : List Int) (b : Bool) (w : List Int) (a : Nat) : rnS t b w a false = (0, a, false) := rfl
theorem RParse_l0 (s : ByteArray) (hs : s.size < 1099511627776) (n : Int) : ∀ (d a : Nat) (acc : List S41), s.size < a + d → a ≤ s.size → acc.length ≤ a →
    Ev (fun k => zelligeref23_Parse.l0 k s [] acc (a : Int) true n) (finS n s.size (loopS mk3 (bytesOf s) d acc a true)) := by
  have lb := bytesOf_length s
  intro d
  induction d with
  | zero => intro a acc h1 h2; omega
  | succ d ih =>
    intro a acc h1 h2 h3
    have hw := RWords_f s hs a h2 [(⟨#[115, 105, 116, 101, 32]⟩ : ByteArray), (⟨#[101, 110, 100, 10]⟩ : ByteArray)] (by simp) (by decide)
    rw [show [(⟨#[115, 105, 116, 101, 32]⟩ : ByteArray), (⟨#[101, 110, 100, 10]⟩ : ByteArray)].map bytesOf = [siteW, endW] from rfl] at hw
    have hq := rwS_le (bytesOf s) [siteW, endW] a true (by omega)
    have hst := site_step (bytesOf s) a true
    have hres : ∀ q : Int × Nat × Bool, rwS (bytesOf s) [siteW, endW] a true = q → W3 a (wordsS ((bytesOf s).drop a) [siteW, endW] 0 0) = W2 q ∧ (q.2.2 = true → q.1 = 0 ∨ q.1 = 1) ∧ (q.2.2 = false → q.1 ≠ 0) := by
      intro q e
      subst e
      refine ⟨rfl, ?_, ?_⟩
      · unfold rwS
        simp only [if_true, wordsS]
        split
        · simp
        · split <;> simp
      · unfold rwS
        simp only [if_true, wordsS]
        split
        · simp
        · split <;> simp
    simp only [loopS]
    generalize hqq : rwS (bytesOf s) [siteW, endW] a true = q at *
    obtain ⟨g1, g2, g3⟩ := hres q rfl
    rw [g1] at hw
    obtain ⟨q1, q2, q3⟩ := q
    simp only at hq hst g2 g3
    refine Ev.step (fun k => ?c) (Ev.bind (f := fun k p => if p.2.2 = true then zelligeref23_Parse.j1 k s [] acc p.2.1 p.2.2 n (p.1 == 1) else zelligeref23_Parse.j1 k s [] acc p.2.1 p.2.2 n false) hw ?d)
    case c =>
      show zelligeref23_Parse.l0 (k + 1) _ _ _ _ _ _ = _
      simp only [zelligeref23_Parse.l0]
      rw [if_pos trivial]
    case d =>
      simp only [W2]
      cases q3
      · have := g3 rfl
        rw [if_neg this, finS_false]
        refine Ev.congr (fun k => if_neg Bool.false_ne_true) (Ev.step (fun k => ?_) (RParse_j2bad s n acc (by omega) q2 0 0 0))
        show zelligeref23_Parse.j1 (k + 1) _ _ _ _ _ _ _ = _
        simp only [zelligeref23_Parse.j1]
        rw [if_neg Bool.false_ne_true, if_neg Bool.false_ne_true]
      · refine Ev.congr (fun k => if_pos rfl) ?_
        rcases g2 rfl with rfl | rfl
        · rw [if_pos rfl]
          obtain ⟨e1, e2, e3, e4⟩ := hst rfl
          have ent : ∀ k, zelligeref23_Parse.j1 (k + 1) s [] acc (q2 : Int) true n ((0 : Int) == 1) = (zelligeref23_Take.f k s (q2 : Int) false (⟨#[32]⟩ : ByteArray)).bind fun b => zelligeref23_Parse.j2 k s [] acc b.2.1 b.2.2 n b.1 0 0 := by
            intro k
            simp only [zelligeref23_Parse.j1]
            rw [if_neg (by decide), if_pos trivial]
          have n1 := Take_f s hs false q2 (by omega) (⟨#[32]⟩ : ByteArray) (by decide)
          rw [show bytesOf (⟨#[32]⟩ : ByteArray) = [32] from rfl] at n1
          have i1 := rnS_le (bytesOf s) false [32] q2 true hq
          have f1 := rnS_ge (bytesOf s) false [32] q2 true
          unfold roundS
          simp only
          generalize rnS (bytesOf s) false [32] q2 true = x at *
          obtain ⟨x1, x2, x3⟩ := x
          simp only at i1 f1 ⊢
          refine Ev.step ent (Ev.bind n1 ?_)
          simp only [W2]
          cases x3
          · rw [rnS_false, rnS_false, loopS_false, finS_false]
            exact RParse_j2bad s n acc (by omega) x2 x1 0 0
          · have n2 := Take_f s hs false x2 (by omega) (⟨#[32]⟩ : ByteArray) (by decide)
            rw [show bytesOf (⟨#[32]⟩ : ByteArray) = [32] from rfl] at n2
            have i2 := rnS_le (bytesOf s) false [32] x2 true i1
            have f2 := rnS_ge (bytesOf s) false [32] x2 true
            generalize rnS (bytesOf s) false [32] x2 true = y at *
            obtain ⟨y1, y2, y3⟩ := y
            simp only at i2 f2 ⊢
            refine Ev.step (f := fun k => (zelligeref23_Take.f k s (x2 : Int) false (⟨#[32]⟩ : ByteArray)).bind fun b => if b.2.2 = true then (zelligeref23_Take.f k s b.2.1 false (⟨#[10]⟩ : ByteArray)).bind fun b2 => if acc.length < 5864062014805 then zelligeref23_Parse.l0 k s [] (acc ++ [(⟨x1, b.1, b2.1⟩ : S41)]) b2.2.1 b2.2.2 n else none else if acc.length < 5864062014805 then zelligeref23_Parse.l0 k s [] (acc ++ [(⟨x1, b.1, 0⟩ : S41)]) b.2.1 b.2.2 n else none) (fun k => ?_) (Ev.bind n2 ?_)
            · show zelligeref23_Parse.j2 (k + 1) _ _ _ _ _ _ _ _ _ = _
              simp only [zelligeref23_Parse.j2]
              rw [if_pos trivial]
            · simp only [W2]
              cases y3
              · rw [rnS_false, loopS_false, finS_false]
                exact Ev.congr (fun k => (if_neg Bool.false_ne_true).trans (if_pos (by omega))) (RParse_bad s n (acc ++ [⟨x1, y1, 0⟩]) y2)
              · have n3 := Take_f s hs false y2 (by omega) (⟨#[10]⟩ : ByteArray) (by decide)
                rw [show bytesOf (⟨#[10]⟩ : ByteArray) = [10] from rfl] at n3
                have i3 := rnS_le (bytesOf s) false [10] y2 true i2
                have f3 := rnS_ge (bytesOf s) false [10] y2 true
                generalize rnS (bytesOf s) false [10] y2 true = z at *
                obtain ⟨z1, z2, z3⟩ := z
                simp only at i3 f3 ⊢
                refine Ev.congr (fun k => if_pos trivial) (Ev.bind n3 (Ev.congr (fun k => if_pos (by omega)) ?_))
                simp only [W2]
                cases z3
                · rw [loopS_false, finS_false]
                  exact RParse_bad s n _ z2
                · exact ih z2 (acc ++ [mk3 (x1, y1, z1)]) (by omega) (by omega) (by rw [List.length_append]; simp; omega)
        · rw [if_neg (by decide)]
          refine Ev.step (f := fun _ => some _) (fun k => ?_) (Ev.now _)
          show zelligeref23_Parse.j1 (k + 1) _ _ _ _ _ _ _ = _
          simp only [zelligeref23_Parse.j1]
          unfold finS
          rw [if_pos (by decide)]
          have ec : (((q2 : Nat) : Int) = ((s.size : Nat) : Int)) ↔ q2 = s.size := by omega
          by_cases c2 : q2 = s.size
          · simp [c2]
          · simp [c2, ec]
theorem RParse_f (s : ByteArray) (hs : s.size < 1099511627776) : Ev (fun k => zelligeref23_Parse.f k s) (resS mk3 (bytesOf s)) := by
  have lb := bytesOf_length s
  have hw := RWords_f s hs 0 (Nat.zero_le _) [(⟨#[112, 111, 105, 110, 116, 115, 32]⟩ : ByteArray)] (by simp) (by decide)
  rw [show [(⟨#[112, 111, 105, 110, 116, 115, 32]⟩ : ByteArray)].map bytesOf = [headW] from rfl] at hw
  have hq := rwS_le (bytesOf s) [headW] 0 true (Nat.zero_le _)
  have hl := start_le (bytesOf s)
  have g1 : W3 0 (wordsS ((bytesOf s).drop 0) [headW] 0 0) = W2 (rwS (bytesOf s) [headW] 0 true) := rfl
  rw [g1] at hw
  have efin : resS mk3 (bytesOf s) = finS (parseS mk3 (bytesOf s)).1 s.size (parseS mk3 (bytesOf s)).2 := by
    unfold resS finS
    rw [lb]
  rw [efin]
  unfold parseS
  simp only
  rw [lb]
  generalize rwS (bytesOf s) [headW] 0 true = q at *
  obtain ⟨q1, q2, q3⟩ := q
  simp only at hq hl ⊢
  unfold zelligeref23_Parse.f
  refine Ev.congr (fun k => Option.bind_some _ _) (Ev.bind hw ?_)
  simp only [W2]
  cases q3
  · rw [rnS_false, loopS_false, finS_false]
    exact Ev.congr (fun k => if_neg Bool.false_ne_true) (Ev.now _)
  · refine Ev.congr (fun k => if_pos rfl) ?_
    have n1 := Take_f s hs false q2 (by omega) (⟨#[10]⟩ : ByteArray) (by decide)
    rw [show bytesOf (⟨#[10]⟩ : ByteArray) = [10] from rfl] at n1
    generalize rnS (bytesOf s) false [10] q2 true = x at *
    obtain ⟨x1, x2, x3⟩ := x
    simp only at hl ⊢
    refine Ev.bind n1 ?_
    simp only [W2]
    cases x3
    · rw [loopS_false, finS_false]
      exact RParse_bad s x1 [] x2
    · exact RParse_l0 s hs x1 (s.size + 1) x2 [] (by omega) (by omega) (Nat.zero_le _)
theorem Same_f (l : List S41) (h : l.length < 1099511627776) : Ev (fun k => zelligeref23_Same.f k l l) true := by
  have go : ∀ (d i : Nat), l.length - i = d → i ≤ l.length → Ev (fun k => zelligeref23_Same.l0 k l l (i : Int)) true := by
    intro d
    induction d with
    | zero =>
      intro i hd hi
      refine Ev.step (f := fun _ => some true) (fun k => ?_) (Ev.now _)
      show zelligeref23_Same.l0 (k + 1) _ _ _ = _
      simp only [zelligeref23_Same.l0]
      rw [if_neg (by omega)]
    | succ d ih =>
      intro i hd hi
      refine Ev.step (fun k => ?_) (ih (i + 1) (by omega) (by omega))
      show zelligeref23_Same.l0 (k + 1) _ _ _ = _
      simp only [zelligeref23_Same.l0]
      rw [if_pos (by omega), if_pos (by omega), if_pos (by omega), wsz i (by omega)]
      simp
  unfold zelligeref23_Same.f
  exact Ev.congr (fun k => if_pos rfl) (go _ 0 rfl (Nat.zero_le _))
theorem res_len (t : List Int) : (resS mk3 t).2.1.length ≤ t.length := by
  unfold resS
  split
  · rename_i e
    unfold parseS at e ⊢
    simp only at e ⊢
    exact Nat.le_trans (loopS_acc mk3 t _ [] _ _ (Nat.zero_le _)) (Nat.le_of_eq e.2)
  · simp
end Go.Proofs.Ytgpepiefojjkaaa.Pt
namespace Go.Proofs.Ytgpepiefojjkaaa.Pure
open Go.RowKit Go.Proofs.YtgpepiefojjkaaaW.PrintWords Go.Proofs.YtgpepiefojjkaaaW.PrintLast Go.Proofs.YtgpepiefojjkaaaW.PrintMore Go.Proofs.Ytgpepiefojjkaaa.ZPts Go.Proofs.Ytgpepiefojjkaaa.Pt
theorem Parses_j0 (s : ByteArray) (hs : s.size < 1099511627776) : Ev (fun k => zelligelaw23_PointsParses.j0 k s) true := by
  have lb := bytesOf_length s
  have hl := res_len (bytesOf s)
  refine Ev.step (f := fun k => (points_Parse.f k s).bind fun p => (zelligeref23_Parse.f k s).bind fun q => if p.1 = q.1 then (zelligeref23_Same.f k p.2.1 q.2.1).bind fun t => if t = true then (if p.2.2.1 = q.2.2.1 then (if p.2.2.2 = q.2.2.2 then (zelligelaw23_lives.f k).bind fun t => some t else some false) else some false) else some false else some false) (fun k => ?_) (Ev.bind (Parse_f s hs) (Ev.bind (RParse_f s hs) ?_))
  · show zelligelaw23_PointsParses.j0 (k + 1) _ = _
    simp only [zelligelaw23_PointsParses.j0]
  · refine Ev.congr (fun k => if_pos rfl) (Ev.bind (Same_f _ (by omega)) (Ev.congr (fun k => ?_) (Ev.bind lives_f (Ev.now true))))
    rw [if_pos rfl, if_pos rfl, if_pos rfl]
theorem PointsParses : zelligelaw23_PointsParses.Pure := by
  intro a0 h
  refine Ev.rounds (show Ev (fun k => zelligelaw23_PointsParses.f k a0) true from ?_)
  unfold zelligelaw23_PointsParses.f
  by_cases hc : (a0.size : Int) > 400
  · have hb := bytesOf_length (a0.extract 0 400)
    rw [bytes_to, List.length_take, bytesOf_length] at hb
    refine Ev.congr (fun k => ?_) (Parses_j0 (a0.extract 0 400) (by omega))
    rw [if_pos hc, if_pos (by omega), if_pos (by omega)]
  · exact Ev.congr (fun k => if_neg hc) (Parses_j0 a0 (by omega))
end Go.Proofs.Ytgpepiefojjkaaa.Pure
