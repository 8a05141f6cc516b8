/- What the printed parser of sites comes to, told of bytes. -/
import Derived.Test.YtmfmojldebhboaaDoorPtB
namespace Go.Proofs.YtmfmojldebhboaaDoor.Pt
open Go.RowKit Go.Proofs.YtmfmojldebhboaaDoorW.PrintWords Go.Proofs.YtmfmojldebhboaaDoorW.PrintLast Go.Proofs.YtmfmojldebhboaaDoorW.PrintMore Go.Proofs.YtmfmojldebhboaaDoor.ZS
set_option linter.unusedVariables false
set_option linter.unusedSimpArgs false

def mk3 (x : Int × Int × Int) : S29 := ⟨x.1, x.2.1, x.2.2⟩
/-- What is told at the end. -/
def finS (n : Int) (m : Nat) (l : List S29 × Nat × Bool) : Int × List S29 × Int × Int := if l.2.2 = true ∧ l.2.1 = m then (n, l.1, 0, 0) else (0, [], ((l.2.1 : Nat) : Int), 17)
theorem Parse_l0 (s : ByteArray) (hs : s.size < 1099511627776) (n : Int) : ∀ (d a : Nat) (ok : Bool) (acc : List S29), s.size < a + d → a ≤ s.size → acc.length ≤ a →
    Ev (fun k => points_Parse.l0 k s n acc s (a : Int) ok) (finS n s.size (loopS mk3 (bytesOf s) d acc a ok)) := by
  have lb := bytesOf_length s
  intro d
  induction d with
  | zero => intro a ok acc h1 h2; omega
  | succ d ih =>
    intro a ok acc h1 h2 h3
    have hw := word_f s hs a h2 ok [(⟨#[115, 105, 116, 101, 32]⟩ : ByteArray), (⟨#[101, 110, 100, 10]⟩ : ByteArray)] (by simp)
    rw [show [(⟨#[115, 105, 116, 101, 32]⟩ : ByteArray), (⟨#[101, 110, 100, 10]⟩ : ByteArray)].map bytesOf = [siteW, endW] from rfl] at hw
    have hq := rwS_le (bytesOf s) [siteW, endW] a ok (by omega)
    have hst := site_step (bytesOf s) a ok
    simp only [loopS]
    generalize rwS (bytesOf s) [siteW, endW] a ok = q at *
    refine Ev.step (fun k => ?c) (Ev.bind (f := fun k p => if p.1 = 0 then (points_reader_number.f k p.2.1 p.2.2.1 p.2.2.2 (⟨#[32]⟩ : ByteArray)).bind fun p1 => (points_reader_number.f k p1.2.1 p1.2.2.1 p1.2.2.2 (⟨#[32]⟩ : ByteArray)).bind fun p2 => (points_reader_number.f k p2.2.1 p2.2.2.1 p2.2.2.2 (⟨#[10]⟩ : ByteArray)).bind fun p3 => if acc.length < 5864062014805 then points_Parse.l0 k s n (acc ++ [(⟨p1.1, p2.1, p3.1⟩ : S29)]) p3.2.1 p3.2.2.1 p3.2.2.2 else none else if p.2.2.2 = true then (if p.2.2.1 = (s.size : Int) then some (n, acc, 0, 0) else some (0, [], p.2.2.1, 17)) else some (0, [], p.2.2.1, 17)) hw ?d)
    case c =>
      show points_Parse.l0 (k + 1) _ _ _ _ _ _ = _
      simp only [points_Parse.l0]
    case d =>
      by_cases h0 : q.1 = 0
      · rw [if_pos h0]
        obtain ⟨g1, g2, g3, g4⟩ := hst h0
        refine Ev.congr (fun k => if_pos (by exact h0)) ?_
        have n1 := number_f s hs q.2.1 (by omega) q.2.2 (⟨#[32]⟩ : ByteArray)
        rw [show bytesOf (⟨#[32]⟩ : ByteArray) = [32] from rfl] at n1
        have e1 := rnS_le (bytesOf s) false [32] q.2.1 q.2.2 hq
        have f1 := rnS_ge (bytesOf s) false [32] q.2.1 q.2.2
        unfold roundS
        generalize rnS (bytesOf s) false [32] q.2.1 q.2.2 = x at *
        refine Ev.bind n1 ?_
        have n2 := number_f s hs x.2.1 (by omega) x.2.2 (⟨#[32]⟩ : ByteArray)
        rw [show bytesOf (⟨#[32]⟩ : ByteArray) = [32] from rfl] at n2
        have e2 := rnS_le (bytesOf s) false [32] x.2.1 x.2.2 e1
        have f2 := rnS_ge (bytesOf s) false [32] x.2.1 x.2.2
        generalize rnS (bytesOf s) false [32] x.2.1 x.2.2 = y at *
        refine Ev.bind n2 ?_
        have n3 := number_f s hs y.2.1 (by omega) y.2.2 (⟨#[10]⟩ : ByteArray)
        rw [show bytesOf (⟨#[10]⟩ : ByteArray) = [10] from rfl] at n3
        have e3 := rnS_le (bytesOf s) false [10] y.2.1 y.2.2 e2
        have f3 := rnS_ge (bytesOf s) false [10] y.2.1 y.2.2
        generalize rnS (bytesOf s) false [10] y.2.1 y.2.2 = z at *
        refine Ev.bind n3 (Ev.congr (fun k => if_pos (by omega)) ?_)
        exact ih z.2.1 z.2.2 (acc ++ [mk3 (x.1, y.1, z.1)]) (by omega) (by omega) (by rw [List.length_append]; simp; omega)
      · rw [if_neg h0]
        refine Ev.congr (fun k => if_neg (by exact h0)) ?_
        unfold finS W4
        refine Ev.congr (f := fun _ => some _) (fun k => ?_) (Ev.now _)
        have ec : (((q.2.1 : Nat) : Int) = ((s.size : Nat) : Int)) ↔ q.2.1 = s.size := by omega
        by_cases c1 : q.2.2 = true
        · by_cases c2 : q.2.1 = s.size
          · simp [c1, c2]
          · simp [c1, c2, ec]
        · simp [c1]
theorem Parse_f (s : ByteArray) (hs : s.size < 1099511627776) : Ev (fun k => points_Parse.f k s) (resS mk3 (bytesOf s)) := by
  have lb := bytesOf_length s
  have hw := word_f s hs 0 (Nat.zero_le _) true [(⟨#[112, 111, 105, 110, 116, 115, 32]⟩ : ByteArray)] (by simp)
  rw [show [(⟨#[112, 111, 105, 110, 116, 115, 32]⟩ : ByteArray)].map bytesOf = [headW] from rfl] at hw
  have hq := rwS_le (bytesOf s) [headW] 0 true (Nat.zero_le _)
  have hl := start_le (bytesOf s)
  unfold resS parseS
  simp only
  generalize rwS (bytesOf s) [headW] 0 true = q at *
  have n1 := number_f s hs q.2.1 (by omega) q.2.2 (⟨#[10]⟩ : ByteArray)
  rw [show bytesOf (⟨#[10]⟩ : ByteArray) = [10] from rfl] at n1
  generalize rnS (bytesOf s) false [10] q.2.1 q.2.2 = x at *
  have h := Parse_l0 s hs x.1 (s.size + 1) x.2.1 x.2.2 [] (by omega) (by omega) (Nat.zero_le _)
  rw [lb]
  exact Ev.bind hw (Ev.bind n1 h)
theorem Parse_lives1 : resS mk3 (bytesOf (⟨#[112, 111, 105, 110, 116, 115, 32, 49, 48, 10, 115, 105, 116, 101, 32, 48, 32, 51, 32, 52, 10, 101, 110, 100, 10]⟩ : ByteArray)) = (10, [⟨0, 3, 4⟩], 0, 0) := by rfl
theorem Parse_lives2 : resS mk3 (bytesOf (⟨#[112, 111, 105, 110, 116, 115, 32, 49, 48, 10, 115, 105, 116, 101, 32, 48, 32, 48, 51]⟩ : ByteArray)) = (0, [], 18, 17) := by rfl
theorem lives_f : Ev (fun k => zelligelaw23_lives.f k) true := by
  have h1 := Parse_f (⟨#[112, 111, 105, 110, 116, 115, 32, 49, 48, 10, 115, 105, 116, 101, 32, 48, 32, 51, 32, 52, 10, 101, 110, 100, 10]⟩ : ByteArray) (by decide)
  have h2 := Parse_f (⟨#[112, 111, 105, 110, 116, 115, 32, 49, 48, 10, 115, 105, 116, 101, 32, 48, 32, 48, 51]⟩ : ByteArray) (by decide)
  rw [Parse_lives1] at h1
  rw [Parse_lives2] at h2
  unfold zelligelaw23_lives.f
  refine Ev.bind h1 (Ev.bind h2 (Ev.congr (fun k => ?_) (Ev.now true)))
  rfl
end Go.Proofs.YtmfmojldebhboaaDoor.Pt
