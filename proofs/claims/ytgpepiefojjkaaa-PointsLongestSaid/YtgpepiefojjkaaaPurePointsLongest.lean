/- The law PointsLongest, told of bytes. -/
import Derived.Test.YtgpepiefojjkaaaPtC
import Derived.Test.YtgpepiefojjkaaaZPtsx8
namespace Go.Proofs.Ytgpepiefojjkaaa.Pure
open Go.RowKit Go.Proofs.YtgpepiefojjkaaaW.PrintWords Go.Proofs.YtgpepiefojjkaaaW.PrintLast Go.Proofs.YtgpepiefojjkaaaW.PrintMore Go.Proofs.Ytgpepiefojjkaaa.ZPts Go.Proofs.Ytgpepiefojjkaaa.Pt
set_option linter.unusedVariables false
set_option linter.unusedSimpArgs false

theorem Longest_j1 (s : ByteArray) (hs : s.size < 1099511627776) (p : Nat) (hp : p ≤ s.size) (h : p < s.size → (resS mk3 ((bytesOf s).take (p + 1))).2.2.1 = (p : Int) ∧ (resS mk3 ((bytesOf s).take (p + 1))).2.2.2 = 17) : Ev (fun k => zelligelaw23_PointsLongest.j1 k s (p : Int) false) true := by
  have lv : Ev (fun k => (zelligelaw23_lives.f k).bind fun t => some t) true := Ev.bind lives_f (Ev.now true)
  by_cases hc : p = s.size
  · refine Ev.step (fun k => ?_) lv
    show zelligelaw23_PointsLongest.j1 (k + 1) _ _ _ = _
    simp only [zelligelaw23_PointsLongest.j1]
    rw [if_neg Bool.false_ne_true, if_pos (by omega)]
  · obtain ⟨g1, g2⟩ := h (by omega)
    have hb := bytesOf_length (s.extract 0 (p + 1))
    rw [bytes_to, List.length_take, bytesOf_length] at hb
    have hf := Parse_f (s.extract 0 (p + 1)) (by omega)
    rw [bytes_to] at hf
    refine Ev.step (f := fun k => (points_Parse.f k (s.extract 0 (p + 1))).bind fun b => if b.2.2.1 = (p : Int) then (if b.2.2.2 = 17 then (zelligelaw23_lives.f k).bind fun t => some t else some false) else some false) (fun k => ?_) (Ev.bind hf ?_)
    · show zelligelaw23_PointsLongest.j1 (k + 1) _ _ _ = _
      simp only [zelligelaw23_PointsLongest.j1]
      rw [if_neg Bool.false_ne_true, if_neg (by omega), wsz p (by omega), if_pos (by omega), if_pos (by omega), Int.toNat_natCast]
    · rw [g1, g2]
      exact Ev.congr (fun k => by rw [if_pos rfl, if_pos rfl]) lv
theorem Longest_j0 (s : ByteArray) (hs : s.size < 1099511627776) : Ev (fun k => zelligelaw23_PointsLongest.j0 k s) true := by
  have lv : Ev (fun k => (zelligelaw23_lives.f k).bind fun t => some t) true := Ev.bind lives_f (Ev.now true)
  have lb := bytesOf_length s
  refine Ev.step (fun k => ?c) (Ev.bind (f := fun k b => if b.2.2.2 = 0 then (zelligelaw23_lives.f k).bind fun t => some t else if 0 ≤ b.2.2.1 then (if b.2.2.1 ≤ (s.size : Int) then (points_Parse.f k (s.extract 0 (b.2.2.1 : Int).toNat)).bind fun b2 => if b.2.2.1 < 0 then zelligelaw23_PointsLongest.j1 k s b.2.2.1 true else if b.2.2.1 > (s.size : Int) then zelligelaw23_PointsLongest.j1 k s b.2.2.1 true else if b2.2.2.2 = 0 then (if b.2.2.1 = (s.size : Int) then zelligelaw23_PointsLongest.j1 k s b.2.2.1 true else zelligelaw23_PointsLongest.j1 k s b.2.2.1 false) else zelligelaw23_PointsLongest.j1 k s b.2.2.1 (b2.2.2.1 != b.2.2.1) else none) else none) (Parse_f s hs) ?d)
  case c =>
    show zelligelaw23_PointsLongest.j0 (k + 1) _ = _
    simp only [zelligelaw23_PointsLongest.j0]
  case d =>
    by_cases h0 : (resS mk3 (bytesOf s)).2.2.2 = 0
    · exact Ev.congr (fun k => if_pos h0) lv
    · obtain ⟨p, e1, e2, e3, e4, e5⟩ := longest mk3 (bytesOf s) h0
      have hb := bytesOf_length (s.extract 0 p)
      rw [bytes_to, List.length_take, bytesOf_length] at hb
      have hf := Parse_f (s.extract 0 p) (by omega)
      rw [bytes_to] at hf
      have j1 := Longest_j1 s hs p (by omega) (fun g => e5 (by omega))
      rw [e1]
      refine Ev.congr (fun k => ?c2) (Ev.bind (f := fun k b2 => if b2.2.2.2 = 0 then (if (p : Int) = (s.size : Int) then zelligelaw23_PointsLongest.j1 k s (p : Int) true else zelligelaw23_PointsLongest.j1 k s (p : Int) false) else zelligelaw23_PointsLongest.j1 k s (p : Int) (b2.2.2.1 != (p : Int))) hf ?d2)
      case c2 =>
        rw [if_neg h0, if_pos (by omega), if_pos (by omega), Int.toNat_natCast]
        congr 1
        funext b2
        rw [if_neg (by omega), if_neg (by omega)]
      case d2 =>
        by_cases h1 : (resS mk3 ((bytesOf s).take p)).2.2.2 = 0
        · have := e3 h1
          refine Ev.congr (fun k => ?_) j1
          rw [if_pos h1, if_neg (by omega)]
        · have := e4 h1
          refine Ev.congr (fun k => ?_) j1
          rw [if_neg h1, this, bne_self_eq_false]
theorem PointsLongest : zelligelaw23_PointsLongest.Pure := by
  intro a0 h
  refine Ev.rounds (show Ev (fun k => zelligelaw23_PointsLongest.f k a0) true from ?_)
  unfold zelligelaw23_PointsLongest.f
  by_cases hc : (a0.size : Int) > 400
  · have hb := bytesOf_length (a0.extract 0 400)
    rw [bytes_to, List.length_take, bytesOf_length] at hb
    refine Ev.congr (fun k => ?_) (Longest_j0 (a0.extract 0 400) (by omega))
    rw [if_pos hc, if_pos (by omega), if_pos (by omega)]
  · exact Ev.congr (fun k => if_neg hc) (Longest_j0 a0 (by omega))
end Go.Proofs.Ytgpepiefojjkaaa.Pure
