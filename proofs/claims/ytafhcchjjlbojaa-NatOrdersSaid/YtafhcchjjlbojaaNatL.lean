/- What the printed functions of nat come to, told of numbers: reading decimal. -/
import Derived.Test.YtafhcchjjlbojaaNum
import Derived.Test.YtafhcchjjlbojaaStr
import Derived.Test.YtafhcchjjlbojaaZNatgParse
namespace Go.Proofs.Ytafhcchjjlbojaa.ZNatP
open Go.RowKit Go.Proofs.YtafhcchjjlbojaaW.PrintWords Go.Proofs.YtafhcchjjlbojaaW.PrintLast Go.Proofs.YtafhcchjjlbojaaW.PrintMore Go.Proofs.Ytafhcchjjlbojaa.Num Go.Proofs.Ytafhcchjjlbojaa.ZNat
set_option linter.unusedVariables false
set_option linter.unusedSimpArgs false

theorem ten_step (b i A P c x z p R : Nat) (h : P + b ^ i * c = A) (hp : p = c + x * 10) (hz : z = p % b) : (P + b ^ i * z) + b ^ (i + 1) * (p / b) = A + b ^ i * (10 * x) := by
  have h1 := carry_step b i P p
  rw [hz, h1, hp, Nat.mul_add, ← h, Nat.mul_comm x]
  omega
/-- The number times ten, and a digit more. -/
theorem Parse_l2 (s : ByteArray) (x42 x43 : Int) (r : List Int × Int) (n : Nat) (hn : n < 35184372088831) : ∀ (R P : List Int) (i c A : Nat), P.length = i → n = i + R.length → WB 4294967296 P → WB 4294967296 R → c < 10 → VB 4294967296 P + 4294967296 ^ i * c = A →
    ∃ (z : List Int) (c' : Nat), z.length = n ∧ WB 4294967296 z ∧ c' < 10 ∧ VB 4294967296 z + 4294967296 ^ n * c' = A + 4294967296 ^ i * (10 * VB 4294967296 R) ∧
      (Ev (fun k => nat_Parse.l1 k s (if 0 < c' then z ++ [(c' : Int)] else z) x42 (wrap64 (x43 + 1))) r → Ev (fun k => nat_Parse.l2 k s (P ++ R) (c : Int) x42 x43 (n : Int) (i : Int)) r) := by
  intro R
  induction R with
  | nil =>
    intro P i c A hP hi hWP hWR hc h
    have hni : n = i := by simpa using hi
    subst hni
    refine ⟨P, c, hP, hWP, hc, by rw [h]; simp [VB], fun hr => Ev.step (fun k => ?_) hr⟩
    show nat_Parse.l2 (k + 1) s (P ++ []) (c : Int) x42 x43 (n : Int) (n : Int) = _
    simp only [nat_Parse.l2]
    rw [if_neg (by omega), List.append_nil]
    by_cases h0 : 0 < c
    · rw [if_pos (by omega), if_pos (by omega), if_pos h0, show (c : Int) % 4294967296 = (c : Int) from by omega]
    · rw [if_neg (by omega), if_neg h0]
  | cons x R ih =>
    intro P i c A hP hi hWP hWR hc h
    obtain ⟨hx, hWR'⟩ := WB_cons.1 hWR
    obtain ⟨x, rfl⟩ := Int.eq_ofNat_of_zero_le hx.1
    have hin : i < n := by rw [hi]; simp
    have hH := Aside0.mk h
    clear h
    have hp : IntKind.u64.wrap ((c : Int) + IntKind.u64.wrap (IntKind.u64.wrap (x : Int) * 10)) = ((c + x * 10 : Nat) : Int) := by
      rw [u64in (x : Int) (by omega) (by omega), u64in ((x : Int) * 10) (by omega) (by omega), u64in ((c : Int) + (x : Int) * 10) (by omega) (by omega)]
      omega
    have HP := Aside0.mk hp
    clear hp
    obtain ⟨z, c', g1, g2, g3, g4, g5⟩ := ih (P ++ [(((c + x * 10) % 4294967296 : Nat) : Int)]) (i + 1) ((c + x * 10) / 4294967296) (A + 4294967296 ^ i * (10 * x)) (by simp [hP]) (by rw [hi]; simp; omega) (WB_append.2 ⟨hWP, WB_cons.2 ⟨by omega, WB_nil _⟩⟩) hWR' (by omega) (by rw [VB_snoc, hP, Int.toNat_natCast]; exact ten_step 4294967296 i A _ c x _ _ 0 hH.out rfl rfl)
    refine ⟨z, c', g1, g2, g3, ?_, fun hr => Ev.step (fun k => ?_) (g5 hr)⟩
    · rw [g4, VB, Int.toNat_natCast, Nat.mul_add 10, Nat.mul_add, Nat.pow_succ, Nat.add_assoc, Nat.mul_assoc, Nat.mul_left_comm 10 4294967296]
    · show nat_Parse.l2 (k + 1) s (P ++ (x : Int) :: R) (c : Int) x42 x43 (n : Int) (i : Int) = _
      have hlen : (P ++ (x : Int) :: R).length = n := by rw [hi]; simp [hP]
      have hrd : rd (P ++ (x : Int) :: R) (i : Int) = (x : Int) := by rw [← hP]; exact rd_mid P _ R
      have hst : ∀ w : Int, (P ++ (x : Int) :: R).set i w = (P ++ [w]) ++ R := by
        intro w
        rw [← hP, set_mid P _ _ R, List.append_assoc, List.singleton_append]
      simp only [nat_Parse.l2]
      rw [if_pos (by omega), if_pos (by omega), if_pos (by omega), hrd, HP.out, ndiv32, nmod32, Int.toNat_natCast, hst, wsucc i (by omega)]
/-- The digits from i on. -/
theorem Parse_l1 (s : ByteArray) (hok : okS (bytesOf s)) (hs : (bytesOf s).length ≤ 2000) : ∀ (d i : Nat), (bytesOf s).length - i = d → i ≤ (bytesOf s).length →
    Ev (fun k => nat_Parse.l1 k s (NB 4294967296 (valS ((bytesOf s).take i))) ((bytesOf s).length : Int) (i : Int)) (NB 4294967296 (valS (bytesOf s)), 0) := by
  have hsz := bytesOf_length s
  intro d
  induction d with
  | zero =>
    intro i hd hi
    have hi' : i = (bytesOf s).length := by omega
    subst hi'
    rw [List.take_of_length_le (Nat.le_refl _)]
    refine Ev.step (f := fun _ => some (NB 4294967296 (valS (bytesOf s)), 0)) (fun k => ?_) (Ev.now _)
    show nat_Parse.l1 (k + 1) _ _ _ _ = _
    simp only [nat_Parse.l1]
    rw [if_neg (by omega)]
  | succ d ih =>
    intro i hd hi
    have hg := ih (i + 1) (by omega) (by omega)
    have hx := hok _ (List.getElem_mem (h := (show i < (bytesOf s).length by omega)))
    rw [← rd_get _ i (by omega)] at hx
    have htk := take_rd (bytesOf s) i (by omega)
    rw [htk, valS_snoc] at hg
    have hv := valS_lt (okS_take hok i)
    rw [List.length_take, Nat.min_eq_left (by omega)] at hv
    generalize valS ((bytesOf s).take i) = v at *
    obtain ⟨x, hxe⟩ := Int.eq_ofNat_of_zero_le (show 0 ≤ rd (bytesOf s) (i : Int) - 48 by omega)
    rw [hxe, Int.toNat_natCast] at hg
    have hvl : (NB 4294967296 v).length ≤ i := NB_length_le (by omega) _ _ (Nat.lt_of_lt_of_le hv (Nat.pow_le_pow_left (by omega) i))
    have HVV := Aside0.mk hv
    clear hv
    obtain ⟨z, c', g1, g2, g3, g4, g5⟩ := Parse_l2 s ((bytesOf s).length : Int) (i : Int) (NB 4294967296 (valS (bytesOf s)), 0) (NB 4294967296 v).length (by omega) (NB 4294967296 v) [] 0 x x rfl (by simp) (WB_nil _) (WB_NB _ _) (by omega) (by simp [VB])
    rw [VB_NB (by omega), Nat.pow_zero, Nat.one_mul] at g4
    have hge : (NB 4294967296 v).length = 0 ∨ 4294967296 ^ ((NB 4294967296 v).length - 1) ≤ v := by
      rcases Nat.eq_zero_or_pos (NB 4294967296 v).length with h | h
      · exact .inl h
      · refine .inr ?_
        rcases Nat.lt_or_ge v (4294967296 ^ ((NB 4294967296 v).length - 1)) with h2 | h2
        · have := NB_length_le (b := 4294967296) (by omega) _ _ h2
          omega
        · exact h2
    have hz : (if 0 < c' then z ++ [(c' : Int)] else z) = NB 4294967296 (x + 10 * v) := by
      rw [← g4]
      by_cases h0 : 0 < c'
      · rw [if_pos h0]
        have e : VB 4294967296 (z ++ [(c' : Int)]) = VB 4294967296 z + 4294967296 ^ (NB 4294967296 v).length * c' := by rw [VB_snoc, g1, Int.toNat_natCast]
        rw [← e]
        refine (NB_of_len (by omega) _ (WB_append.2 ⟨g2, WB_cons.2 ⟨by omega, WB_nil _⟩⟩) (.inr ?_)).symm
        rw [e, List.length_append, List.length_singleton, Nat.add_sub_cancel, g1]
        exact Nat.le_trans (Nat.le_mul_of_pos_right _ h0) (Nat.le_add_left _ _)
      · rw [if_neg h0]
        have hc0 : c' = 0 := by omega
        rw [hc0, Nat.mul_zero, Nat.add_zero] at g4 ⊢
        refine (NB_of_len (by omega) _ g2 ?_).symm
        rw [g1, g4]
        rcases hge with h | h
        · exact .inl h
        · exact .inr (Nat.le_trans h (by omega))
    rw [hz] at g5
    have hgo := g5 (by rw [wsucc i (by omega)]; exact hg)
    refine Ev.step (fun k => ?_) hgo
    show nat_Parse.l1 (k + 1) _ _ _ _ = _
    have hb : ((bt s (i : Int)) - 48) % 256 = (x : Int) := by rw [← rd_bytesOf]; omega
    simp only [nat_Parse.l1]
    rw [if_pos (by omega), if_pos (by omega), if_pos (by omega), hb]
    rfl
theorem Parse_j1 (s : ByteArray) (hok : okS (bytesOf s)) (b : Bool) (hb : (b = false) ↔ formS (bytesOf s)) : Ev (fun k => nat_Parse.j1 k s b) (parseR 4294967296 (bytesOf s)) := by
  have hsz := bytesOf_length s
  unfold parseR
  cases b with
  | true =>
    rw [if_neg (fun h => by have := hb.2 h.2; cases this)]
    refine Ev.step (f := fun _ => some ([], 4)) (fun k => ?_) (Ev.now _)
    show nat_Parse.j1 (k + 1) _ _ = _
    simp only [nat_Parse.j1]
    rw [if_pos trivial]
  | false =>
    rw [if_pos ⟨hok, hb.1 rfl⟩]
    by_cases h : (bytesOf s).length ≤ 2000
    · rw [if_pos h]
      refine Ev.step (fun k => ?_) (Parse_l1 s hok h _ 0 rfl (by omega))
      show nat_Parse.j1 (k + 1) _ _ = _
      simp only [nat_Parse.j1]
      rw [if_neg Bool.false_ne_true, if_neg (by omega), hsz, List.take_zero, valS_nil, NB_zero]
      rfl
    · rw [if_neg h]
      refine Ev.step (f := fun _ => some ([], 5)) (fun k => ?_) (Ev.now _)
      show nat_Parse.j1 (k + 1) _ _ = _
      simp only [nat_Parse.j1]
      rw [if_neg Bool.false_ne_true, if_pos (by omega)]
theorem Parse_l0 (s : ByteArray) (hs : (bytesOf s).length < 4611686018427387904) : ∀ (d i : Nat), (bytesOf s).length - i = d → i ≤ (bytesOf s).length → okS ((bytesOf s).take i) →
    Ev (fun k => nat_Parse.l0 k s (bytesOf s) ((bytesOf s).length : Int) (i : Int)) (parseR 4294967296 (bytesOf s)) := by
  have hsz := bytesOf_length s
  intro d
  induction d with
  | zero =>
    intro i hd hi hok
    have hi' : i = (bytesOf s).length := by omega
    subst hi'
    rw [List.take_of_length_le (Nat.le_refl _)] at hok
    have hdl := data_length s
    by_cases h0 : (bytesOf s) = []
    · refine Ev.step (fun k => ?_) (Parse_j1 s hok true ⟨fun h => absurd h (by decide), fun h => absurd h0 h.1⟩)
      show nat_Parse.l0 (k + 1) _ _ _ _ = _
      simp only [nat_Parse.l0]
      rw [if_neg (by omega), toList_data, if_pos (by unfold bytesOf at h0; simpa using h0)]
    · have h1 : (bytesOf s).length ≠ 0 := fun e => h0 (List.length_eq_zero_iff.1 e)
      have hne : ¬ s.toList = [] := fun e => by
        rw [toList_data] at e
        rw [e] at hdl
        simp at hdl
        omega
      have hb0 : bt s 0 = rd (bytesOf s) 0 := (rd_bytesOf s 0).symm
      by_cases h2 : rd (bytesOf s) 0 = 48
      · refine Ev.step (fun k => ?_) (Parse_j1 s hok (decide ((s.size : Int) > 1)) ⟨fun h => ⟨h0, fun _ => ?_⟩, fun h => ?_⟩)
        · show nat_Parse.l0 (k + 1) _ _ _ _ = _
          simp only [nat_Parse.l0]
          rw [if_neg (by omega), if_neg hne, if_pos (by omega), hb0, if_pos h2]
        · have := of_decide_eq_false h
          omega
        · have := h.2 h2
          exact decide_eq_false (by omega)
      · refine Ev.step (fun k => ?_) (Parse_j1 s hok false ⟨fun h => ⟨h0, fun e => absurd e h2⟩, fun h => rfl⟩)
        show nat_Parse.l0 (k + 1) _ _ _ _ = _
        simp only [nat_Parse.l0]
        rw [if_neg (by omega), if_neg hne, if_pos (by omega), hb0, if_neg h2]
  | succ d ih =>
    intro i hd hi hok
    have hmem : rd (bytesOf s) (i : Int) ∈ bytesOf s := by rw [rd_get _ i (by omega)]; exact List.getElem_mem _
    by_cases h : 48 ≤ rd (bytesOf s) (i : Int) ∧ rd (bytesOf s) (i : Int) ≤ 57
    · refine Ev.step (fun k => ?_) (ih (i + 1) (by omega) (by omega) ?_)
      · show nat_Parse.l0 (k + 1) _ _ _ _ = _
        simp only [nat_Parse.l0]
        rw [if_pos (by omega), if_pos (by omega), if_pos (by omega), if_neg (by omega), if_neg (by omega), wsucc i (by omega)]
      · rw [take_rd _ i (by omega)]
        intro x hx
        rcases List.mem_append.1 hx with hx | hx
        · exact hok x hx
        · rw [List.mem_singleton.1 hx]; exact h
    · have hbad : parseR 4294967296 (bytesOf s) = ([], 4) := by
        unfold parseR
        rw [if_neg (fun e => h (e.1 _ hmem))]
      rw [hbad]
      refine Ev.step (f := fun _ => some ([], 4)) (fun k => ?_) (Ev.now _)
      show nat_Parse.l0 (k + 1) _ _ _ _ = _
      simp only [nat_Parse.l0]
      rw [if_pos (by omega), if_pos (by omega), if_pos (by omega)]
      by_cases h2 : rd (bytesOf s) (i : Int) < 48
      · rw [if_pos h2]
      · rw [if_neg h2, if_pos (by omega)]
theorem Parse_f (s : ByteArray) (hs : s.size < 4611686018427387904) : Ev (fun k => nat_Parse.f k s) (parseR 4294967296 (bytesOf s)) := by
  have hsz := bytesOf_length s
  unfold nat_Parse.f
  refine Ev.congr (fun k => ?_) (Parse_l0 s (by omega) _ 0 rfl (by omega) (fun x hx => by simp at hx))
  rw [if_pos (by omega), Option.bind_some]
  rfl
end Go.Proofs.Ytafhcchjjlbojaa.ZNatP
