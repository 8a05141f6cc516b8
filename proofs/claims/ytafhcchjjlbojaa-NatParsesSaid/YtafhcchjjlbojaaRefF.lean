/- What the printed functions of the reference for nat come to, told of numbers: reading decimal. -/
import Derived.Test.YtafhcchjjlbojaaNum
import Derived.Test.YtafhcchjjlbojaaStr
import Derived.Test.YtafhcchjjlbojaaRefA
import Derived.Test.YtafhcchjjlbojaaRefB
import Derived.Test.YtafhcchjjlbojaaRefC
import Derived.Test.YtafhcchjjlbojaaZNatgRParse
namespace Go.Proofs.Ytafhcchjjlbojaa.ZNatP
open Go.RowKit Go.Proofs.YtafhcchjjlbojaaW.PrintWords Go.Proofs.YtafhcchjjlbojaaW.PrintLast Go.Proofs.YtafhcchjjlbojaaW.PrintMore Go.Proofs.Ytafhcchjjlbojaa.Num Go.Proofs.Ytafhcchjjlbojaa.ZNat
set_option linter.unusedVariables false
set_option linter.unusedSimpArgs false

theorem NB_len_dec (v i : Nat) (hv : v < 10 ^ i) : (NB 65536 v).length ≤ i := NB_length_le (by omega) _ _ (Nat.lt_of_lt_of_le hv (Nat.pow_le_pow_left (by omega) i))
/-- The digits from i on. -/
theorem RParse_l1 (s : ByteArray) (hok : okS (bytesOf s)) (hs : (bytesOf s).length ≤ 2000) : ∀ (d i : Nat), (bytesOf s).length - i = d → i ≤ (bytesOf s).length →
    Ev (fun k => zelligeref03_Parse.l1 k s (NB 65536 (valS ((bytesOf s).take i))) (i : Int)) (NB 65536 (valS (bytesOf s)), 0) := by
  have hsz := bytesOf_length s
  intro d
  induction d with
  | zero =>
    intro i hd hi
    have hi' : i = (bytesOf s).length := by omega
    subst hi'
    rw [List.take_of_length_le (Nat.le_refl _)]
    refine Ev.step (f := fun _ => some (NB 65536 (valS (bytesOf s)), 0)) (fun k => ?_) (Ev.now _)
    show zelligeref03_Parse.l1 (k + 1) _ _ _ = _
    simp only [zelligeref03_Parse.l1]
    rw [if_neg (by omega)]
  | succ d ih =>
    intro i hd hi
    have hg := ih (i + 1) (by omega) (by omega)
    have hx := hok _ (List.getElem_mem (h := (show i < (bytesOf s).length by omega)))
    rw [← rd_get _ i (by omega)] at hx
    have htk := take_rd (bytesOf s) i (by omega)
    rw [htk, valS_snoc] at hg
    have hv := valS_lt (okS_take hok i)
    rw [List.length_take, Nat.min_eq_left (by omega)] at hv
    generalize valS ((bytesOf s).take i) = v at *
    obtain ⟨x, hxe⟩ := Int.eq_ofNat_of_zero_le (show 0 ≤ rd (bytesOf s) (i : Int) - 48 by omega)
    rw [hxe, Int.toNat_natCast] at hg
    have l1 := NB_len_dec v i hv
    have l2 : (NB 65536 (v * 10)).length ≤ i + 1 := NB_len_dec _ _ (by rw [Nat.pow_succ]; exact Nat.mul_lt_mul_of_pos_right hv (by omega))
    clear hv
    have hm := RMul_f (NB 65536 v) [10] (WB_NB _ _) (WB_cons.2 ⟨by omega, WB_nil _⟩) (by simp; omega)
    rw [VB_NB (by omega), show VB 65536 [10] = 10 from rfl] at hm
    have ht := RTrim_f [(x : Int)] (WB_cons.2 ⟨by omega, WB_nil _⟩) (by simp)
    rw [show VB 65536 [(x : Int)] = x from by simp [VB]] at ht
    have l3 : (NB 65536 x).length ≤ 1 := NB_length_le (by omega) _ _ (by omega)
    have ha := RAdd_f (NB 65536 (v * 10)) (NB 65536 x) (WB_NB _ _) (WB_NB _ _) (by omega) (by omega)
    rw [VB_NB (by omega), VB_NB (by omega), show v * 10 + x = x + 10 * v from by omega] at ha
    have E2 := Aside0.mk (wsucc i (by omega))
    have hb : ((bt s (i : Int)) - 48) % 256 = (x : Int) := by rw [← rd_bytesOf]; omega
    refine Ev.step (fun k => ?c) (Ev.bind (f := ?F) hm ?d)
    case c =>
      show zelligeref03_Parse.l1 (k + 1) _ _ _ = _
      simp only [zelligeref03_Parse.l1]
      rw [if_pos (by omega), hb]
    case d =>
      refine Ev.congr (fun k => if_pos (by omega)) ?_
      refine Ev.bind ht ?_
      refine Ev.bind ha ?_
      rw [E2.out]
      exact hg
theorem RParse_j1 (s : ByteArray) (hok : okS (bytesOf s)) (b : Bool) (hb : (b = false) ↔ formS (bytesOf s)) : Ev (fun k => zelligeref03_Parse.j1 k s [] b) (parseR 65536 (bytesOf s)) := by
  have hsz := bytesOf_length s
  unfold parseR
  cases b with
  | true =>
    rw [if_neg (fun h => by have := hb.2 h.2; cases this)]
    refine Ev.step (f := fun _ => some ([], 4)) (fun k => ?_) (Ev.now _)
    show zelligeref03_Parse.j1 (k + 1) _ _ _ = _
    simp only [zelligeref03_Parse.j1]
    rw [if_pos trivial]
  | false =>
    rw [if_pos ⟨hok, hb.1 rfl⟩]
    by_cases h : (bytesOf s).length ≤ 2000
    · rw [if_pos h]
      refine Ev.step (fun k => ?_) (RParse_l1 s hok h _ 0 rfl (by omega))
      show zelligeref03_Parse.j1 (k + 1) _ _ _ = _
      simp only [zelligeref03_Parse.j1]
      rw [if_neg Bool.false_ne_true, if_neg (by omega), List.take_zero, valS_nil, NB_zero]
      rfl
    · rw [if_neg h]
      refine Ev.step (f := fun _ => some ([], 5)) (fun k => ?_) (Ev.now _)
      show zelligeref03_Parse.j1 (k + 1) _ _ _ = _
      simp only [zelligeref03_Parse.j1]
      rw [if_neg Bool.false_ne_true, if_pos (by omega)]
theorem RParse_l0 (s : ByteArray) (hs : (bytesOf s).length < 4611686018427387904) : ∀ (d i : Nat), (bytesOf s).length - i = d → i ≤ (bytesOf s).length → okS ((bytesOf s).take i) →
    Ev (fun k => zelligeref03_Parse.l0 k s [] (i : Int)) (parseR 65536 (bytesOf s)) := by
  have hsz := bytesOf_length s
  intro d
  induction d with
  | zero =>
    intro i hd hi hok
    have hi' : i = (bytesOf s).length := by omega
    subst hi'
    rw [List.take_of_length_le (Nat.le_refl _)] at hok
    have hdl := data_length s
    by_cases h0 : (bytesOf s) = []
    · refine Ev.step (fun k => ?_) (RParse_j1 s hok true ⟨fun h => absurd h (by decide), fun h => absurd h0 h.1⟩)
      show zelligeref03_Parse.l0 (k + 1) _ _ _ = _
      simp only [zelligeref03_Parse.l0]
      rw [if_neg (by omega), toList_data, if_pos (by unfold bytesOf at h0; simpa using h0)]
    · have h1 : (bytesOf s).length ≠ 0 := fun e => h0 (List.length_eq_zero_iff.1 e)
      have hne : ¬ s.toList = [] := fun e => by
        rw [toList_data] at e
        rw [e] at hdl
        simp at hdl
        omega
      have hb0 : bt s 0 = rd (bytesOf s) 0 := (rd_bytesOf s 0).symm
      by_cases h2 : rd (bytesOf s) 0 = 48
      · refine Ev.step (fun k => ?_) (RParse_j1 s hok (decide ((s.size : Int) > 1)) ⟨fun h => ⟨h0, fun _ => ?_⟩, fun h => ?_⟩)
        · show zelligeref03_Parse.l0 (k + 1) _ _ _ = _
          simp only [zelligeref03_Parse.l0]
          rw [if_neg (by omega), if_neg hne, if_pos (by omega), hb0, if_pos h2]
        · have := of_decide_eq_false h
          omega
        · have := h.2 h2
          exact decide_eq_false (by omega)
      · refine Ev.step (fun k => ?_) (RParse_j1 s hok false ⟨fun h => ⟨h0, fun e => absurd e h2⟩, fun h => rfl⟩)
        show zelligeref03_Parse.l0 (k + 1) _ _ _ = _
        simp only [zelligeref03_Parse.l0]
        rw [if_neg (by omega), if_neg hne, if_pos (by omega), hb0, if_neg h2]
  | succ d ih =>
    intro i hd hi hok
    have hmem : rd (bytesOf s) (i : Int) ∈ bytesOf s := by rw [rd_get _ i (by omega)]; exact List.getElem_mem _
    have hbt : bt s (i : Int) = rd (bytesOf s) (i : Int) := (rd_bytesOf s _).symm
    by_cases h : 48 ≤ rd (bytesOf s) (i : Int) ∧ rd (bytesOf s) (i : Int) ≤ 57
    · refine Ev.step (fun k => ?_) (ih (i + 1) (by omega) (by omega) ?_)
      · show zelligeref03_Parse.l0 (k + 1) _ _ _ = _
        simp only [zelligeref03_Parse.l0]
        rw [if_pos (by omega), if_pos (by omega), hbt, if_neg (by omega), if_neg (by omega), wsucc i (by omega)]
      · rw [take_rd _ i (by omega)]
        intro x hx
        rcases List.mem_append.1 hx with hx | hx
        · exact hok x hx
        · rw [List.mem_singleton.1 hx]; exact h
    · have hbad : parseR 65536 (bytesOf s) = ([], 4) := by
        unfold parseR
        rw [if_neg (fun e => h (e.1 _ hmem))]
      rw [hbad]
      refine Ev.step (f := fun _ => some ([], 4)) (fun k => ?_) (Ev.now _)
      show zelligeref03_Parse.l0 (k + 1) _ _ _ = _
      simp only [zelligeref03_Parse.l0]
      rw [if_pos (by omega), if_pos (by omega), hbt]
      by_cases h2 : rd (bytesOf s) (i : Int) < 48
      · rw [if_pos h2]
      · rw [if_neg h2, if_pos (by omega)]
theorem RParse_f (s : ByteArray) (hs : s.size < 4611686018427387904) : Ev (fun k => zelligeref03_Parse.f k s) (parseR 65536 (bytesOf s)) := by
  have hsz := bytesOf_length s
  exact RParse_l0 s (by omega) _ 0 rfl (by omega) (fun x hx => by simp at hx)
end Go.Proofs.Ytafhcchjjlbojaa.ZNatP
