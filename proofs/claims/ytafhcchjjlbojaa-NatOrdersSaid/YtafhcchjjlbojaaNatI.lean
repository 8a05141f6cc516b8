/- What the printed functions of nat come to, told of numbers: long division's main loop. -/
import Derived.Test.YtafhcchjjlbojaaNum
import Derived.Test.YtafhcchjjlbojaaNatA
import Derived.Test.YtafhcchjjlbojaaNatE
import Derived.Test.YtafhcchjjlbojaaNatF
import Derived.Test.YtafhcchjjlbojaaNatH
import Derived.Test.YtafhcchjjlbojaaZNatgCore
import Derived.Test.YtafhcchjjlbojaaZNatgLong
import Derived.Test.YtafhcchjjlbojaaZNatgOff
namespace Go.Proofs.Ytafhcchjjlbojaa.ZNatP
open Go.RowKit Go.Proofs.YtafhcchjjlbojaaW.PrintWords Go.Proofs.YtafhcchjjlbojaaW.PrintLast Go.Proofs.YtafhcchjjlbojaaW.PrintMore Go.Proofs.Ytafhcchjjlbojaa.Num Go.Proofs.Ytafhcchjjlbojaa.ZNat
set_option linter.unusedVariables false
set_option linter.unusedSimpArgs false

theorem win_mid (A Z C : List Int) (lo hi : Nat) (h1 : A.length = lo) (h2 : lo + Z.length = hi) : ((A ++ Z ++ C).take hi).drop lo = Z := by
  rw [List.take_append_of_le_length (by simp; omega), List.take_of_length_le (by simp; omega), ← h1, List.drop_left]
theorem win_lo (A Z C : List Int) (lo : Nat) (h1 : A.length = lo) : (A ++ Z ++ C).take lo = A := by
  rw [List.append_assoc, ← h1, List.take_left]
theorem win_hi (A Z C : List Int) (lo hi : Nat) (h1 : A.length = lo) (h2 : lo + Z.length = hi) : (A ++ Z ++ C).drop hi = C := by
  rw [show hi = (A ++ Z).length from by simp; omega, List.drop_left]
theorem win_eq (u : List Int) (lo hi : Nat) (h1 : lo ≤ hi) (h2 : hi ≤ u.length) : u = u.take lo ++ (u.take hi).drop lo ++ u.drop hi := by
  have h3 : u.take lo = (u.take hi).take lo := by rw [List.take_take, Nat.min_eq_left h1]
  rw [h3, List.take_append_drop, List.take_append_drop]
theorem offX_f (A w C v : List Int) (q lo hi : Nat) (h1 : A.length = lo) (h2 : lo + w.length = hi) (hw : WB 4294967296 w) (hv : WB 4294967296 v) (hq : q < 4294967296) (hl : v.length < w.length) (hb : w.length < 35184372088832) :
    ∃ (z : List Int) (d : Nat), z.length = w.length ∧ WB 4294967296 z ∧ d ≤ 1 ∧ VB 4294967296 z + q * VB 4294967296 v = VB 4294967296 w + 4294967296 ^ w.length * d ∧
      Ev (fun k => nat_offX.f k (A ++ w ++ C) (lo : Int) (hi : Int) v (q : Int)) ((d : Int) != 0, A ++ z ++ C) := by
  obtain ⟨z, d, g1, g2, g3, g4, g5⟩ := off_f w v q hw hv hq hl hb
  refine ⟨z, d, g1, g2, g3, g4, ?_⟩
  unfold nat_offX.f
  refine Ev.congr (fun k => ?_) (Ev.bind (f := fun _ b_ => if b_.2.length = (hi : Int).toNat - (lo : Int).toNat then some (b_.1, A ++ b_.2 ++ C) else none) g5 ?_)
  · rw [if_pos ⟨by omega, by omega, by simp; omega⟩, Int.toNat_natCast, Int.toNat_natCast, win_mid A w C lo hi h1 h2, win_lo A w C lo h1, win_hi A w C lo hi h1 h2]
  · dsimp only
    rw [if_pos (by rw [g1]; omega)]
    exact Ev.now _
theorem backX_f (A w C v : List Int) (lo hi : Nat) (h1 : A.length = lo) (h2 : lo + w.length = hi) (hw : WB 4294967296 w) (hv : WB 4294967296 v) (hl : v.length ≤ w.length) (hpos : 0 < w.length) (hb : w.length < 35184372088832) :
    ∃ (z : List Int) (c : Nat), z.length = w.length ∧ WB 4294967296 z ∧ c ≤ 1 ∧ VB 4294967296 z + 4294967296 ^ w.length * c = VB 4294967296 w + VB 4294967296 v ∧
      Ev (fun k => nat_backX.f k (A ++ w ++ C) (lo : Int) (hi : Int) v) (A ++ z ++ C) := by
  obtain ⟨z, c, g1, g2, g3, g4, g5⟩ := back_f w v hw hv hl hb
  refine ⟨z, c, g1, g2, g3, g4, ?_⟩
  unfold nat_backX.f
  refine Ev.congr (fun k => ?_) (Ev.bind (f := fun _ b_ => if b_.length = (hi : Int).toNat - (lo : Int).toNat then some (A ++ b_ ++ C) else none) g5 ?_)
  · rw [if_pos ⟨by omega, by omega, by simp; omega⟩, Int.toNat_natCast, Int.toNat_natCast, win_mid A w C lo hi h1 h2, win_lo A w C lo h1, win_hi A w C lo hi h1 h2]
  · rw [if_pos (by rw [g1]; omega)]
    exact Ev.now _
theorem digit_lt (b x T V : Nat) (hx : x < b) (h : T < V) : x + b * T < b * V := by
  have : b * (T + 1) ≤ b * V := Nat.mul_le_mul_left _ h
  rw [Nat.mul_add, Nat.mul_one] at this
  omega
theorem zero_above (b m L C V : Nat) (h : L + b ^ m * C < V) (hv : V < b ^ m) : C = 0 := by
  rcases Nat.eq_zero_or_pos C with h1 | h1
  · exact h1
  · have : b ^ m * 1 ≤ b ^ m * C := Nat.mul_le_mul_left _ h1
    rw [Nat.mul_one] at this
    omega
/-- The invariant, one word on: A is below, w the window, C the zeros above, X the quotient's words that stand. -/
theorem long_next (A w z C : List Int) (i m U0 V X : Nat) (hA : A.length = i) (hw : w.length = m + 1) (hz : z.length = m + 1) (hC : VB 4294967296 C = 0) (hzv : VB 4294967296 z = VB 4294967296 w % V)
    (h : U0 = VB 4294967296 (A ++ w ++ C) + V * (4294967296 ^ (i + 1) * X)) : U0 = VB 4294967296 (A ++ z ++ C) + V * (4294967296 ^ i * (VB 4294967296 w / V + 4294967296 * X)) ∧ VB 4294967296 ((A ++ z ++ C).drop i) = VB 4294967296 w % V := by
  constructor
  · rw [h, VB_append, VB_append, VB_append, VB_append, hC, hA, hzv, Nat.mul_zero, Nat.mul_zero, Nat.add_zero, Nat.add_zero, Nat.pow_succ]
    exact long_sum _ _ _ _ _ _
  · rw [List.append_assoc, ← hA, List.drop_left, VB_append, hC, hzv, Nat.mul_zero, Nat.add_zero]
theorem quo_next (quo : List Int) (i Q : Nat) (h : i < quo.length) : VB 4294967296 ((quo.set i (Q : Int)).drop i) = Q + 4294967296 * VB 4294967296 (quo.drop (i + 1)) := by
  rw [VB_drop_rd _ _ i (by simpa using h), rd_set _ _ _ _ h, if_pos rfl, Int.toNat_natCast]
  congr 3
  rw [List.drop_set_of_lt (by omega)]
theorem long_l0 (s : Nat) (hs : s < 32) (v : List Int) (m : Nat) (hm : 2 ≤ m) (hv : v.length = m) (hWv : WB 4294967296 v) (top next : Nat) (ht : rd v ((m - 1 : Nat) : Int) = (top : Int)) (hn : rd v ((m - 2 : Nat) : Int) = (next : Int)) (ht1 : 2147483648 ≤ top)
    (L : Nat) (hL : L + m < 35184372088831) : ∀ (r : Nat) (u quo : List Int) (U0 : Nat), r ≤ L → u.length = L + m → quo.length = L → WB 4294967296 u → WB 4294967296 quo → Aside0 (VB 4294967296 (u.drop r) < VB 4294967296 v) →
      Aside0 (U0 = VB 4294967296 u + VB 4294967296 v * (4294967296 ^ r * VB 4294967296 (quo.drop r))) →
      Ev (fun k => nat_long.l0 k (s : Int) u v (m : Int) quo (top : Int) (next : Int) ((r : Int) - 1)) (NB 4294967296 (U0 / VB 4294967296 v), NB 4294967296 (U0 % VB 4294967296 v / 2 ^ s)) := by
  intro r
  induction r with
  | zero =>
    intro u quo U0 hr hu hq hWu hWq hlt he
    have hlt' := hlt.out
    have he' := he.out
    rw [List.drop_zero] at hlt' he'
    rw [Nat.pow_zero, Nat.one_mul, Nat.add_comm] at he'
    have hV : 0 < VB 4294967296 v := Nat.lt_of_le_of_lt (Nat.zero_le _) hlt'
    have e1 : U0 / VB 4294967296 v = VB 4294967296 quo := by rw [he', Nat.mul_add_div hV, Nat.div_eq_of_lt hlt', Nat.add_zero]
    have e2 : U0 % VB 4294967296 v = VB 4294967296 u := by rw [he', Nat.mul_add_mod, Nat.mod_eq_of_lt hlt']
    rw [e1, e2]
    clear e1 e2 he' hV hlt'
    have hN := NBV_len (b := 4294967296) (by omega) hWu
    have h1 := long_l1 s hs quo hWq (by omega) _ (NB 4294967296 (VB 4294967296 u)) [] 0 0 rfl (by rw [List.length_nil]; omega) (WB_NB _ _) (WB_nil _) ⟨by rw [Nat.zero_div]; rfl⟩ rfl (by omega)
    rw [VB_NB (by omega), Nat.mul_zero, Nat.add_zero, List.append_nil] at h1
    refine Ev.step (f := fun k => (nat_trim_own.f k u).bind fun t209 => (nat_long.l1 k (s : Int) quo t209 0 (wrap64 ((t209.length : Int) - 1)))) (fun k => ?_) ?_
    · show nat_long.l0 (k + 1) _ _ _ _ _ _ _ _ = _
      simp only [nat_long.l0]
      rw [if_neg (by omega)]
    · refine Ev.bind (trim_own_f u hWu (by omega)) (Ev.congr (fun k => ?_) h1)
      rw [wpred _ (by omega)]
      rfl
  | succ i ih =>
    intro u quo U0 hr hu hq hWu hWq hlt he
    -- the window
    have hsp := win_eq u i (i + m + 1) (by omega) (by omega)
    have hlA : (u.take i).length = i := by rw [List.length_take]; omega
    have hlw : ((u.take (i + m + 1)).drop i).length = m + 1 := by rw [List.length_drop, List.length_take]; omega
    have hWA := WB_take hWu i
    have hWw := WB_drop (WB_take hWu (i + m + 1)) i
    have hWC := WB_drop hWu (i + m + 1)
    generalize u.take i = A at *
    generalize (u.take (i + m + 1)).drop i = w at *
    generalize u.drop (i + m + 1) = C at *
    subst hsp
    have hVm := VB_lt (by omega) hWv
    rw [hv] at hVm
    obtain ⟨x, w', rfl⟩ : ∃ x w', w = x :: w' := by
      cases w with
      | nil => simp at hlw
      | cons x w' => exact ⟨x, w', rfl⟩
    obtain ⟨hx, hWw'⟩ := WB_cons.1 hWw
    have hlw' : w'.length = m := by simpa using hlw
    have hdr : (A ++ x :: w' ++ C).drop (i + 1) = w' ++ C := by
      rw [show A ++ x :: w' ++ C = (A ++ [x]) ++ (w' ++ C) from by simp, show i + 1 = (A ++ [x]).length from by simp [hlA], List.drop_left]
    have hlt1 := hlt.out
    rw [hdr, VB_append, hlw'] at hlt1
    have hC : VB 4294967296 C = 0 := zero_above _ _ _ _ _ hlt1 hVm
    rw [hC, Nat.mul_zero, Nat.add_zero] at hlt1
    have hwlt : VB 4294967296 (x :: w') < 4294967296 * VB 4294967296 v := by
      rw [VB]
      exact digit_lt _ _ _ _ (by omega) hlt1
    have hV : 0 < VB 4294967296 v := Nat.lt_of_le_of_lt (Nat.zero_le _) hlt1
    have HV := Aside0.mk hV
    have HLT := Aside0.mk hwlt
    have HC := Aside0.mk hC
    clear hlt hlt1 hVm hC hwlt hV hdr
    generalize hw : x :: w' = w at *
    clear hw hx hWw' hlw'
    obtain ⟨q, hq1, hq2, hq3, hg⟩ := guess_f w v m hm (by omega) hlw hv hWw hWv top next ht hn ht1 HLT
    obtain ⟨z, d, hz1, hz2, hd, hz3, ho⟩ := offX_f A w C v q i (i + m + 1) hlA (by omega) hWw hWv hq1 (by omega) (by omega)
    have hzM := VB_lt (by omega) hz2
    rw [hz1] at hzM
    have hword := long_word _ _ q _ d _ HV.out hq2 hq3 hzM hd hz3
    have hQ : VB 4294967296 w / VB 4294967296 v < 4294967296 := by omega
    have HQ2 := Aside0.mk hq2
    have HQ3 := Aside0.mk hq3
    have HW := Aside0.mk hword
    have HQ := Aside0.mk hQ
    clear hq2 hq3 hword hz3 hzM hQ
    have HE1 : Aside0 (wrap64 (wrap64 ((i : Int) + (m : Int)) + 1) = ((i + m + 1 : Nat) : Int)) := ⟨by rw [wadd i m (by omega), wsucc _ (by omega)]⟩
    have HE2 := Aside0.mk (wpred i (by omega))
    have hlu : (A ++ w ++ C).length = L + m := hu
    have hmid := win_mid A w C i (i + m + 1) hlA (by omega)
    have hWset : WB 4294967296 (quo.set i ((VB 4294967296 w / VB 4294967296 v : Nat) : Int)) := WB_set hWq i _ (Int.natCast_nonneg _) (Int.ofNat_lt.2 HQ.out)
    have HQN := Aside0.mk (quo_next quo i (VB 4294967296 w / VB 4294967296 v) (by omega))
    have hlset : (quo.set i ((VB 4294967296 w / VB 4294967296 v : Nat) : Int)).length = L := by rw [List.length_set]; exact hq
    -- what follows, the window's rest being known
    have next' : ∀ z' : List Int, z'.length = m + 1 → WB 4294967296 z' → VB 4294967296 z' = VB 4294967296 w % VB 4294967296 v →
        Ev (fun k => nat_long.l0 k (s : Int) (A ++ z' ++ C) v (m : Int) (quo.set i ((VB 4294967296 w / VB 4294967296 v : Nat) : Int)) (top : Int) (next : Int) ((i : Int) - 1)) (NB 4294967296 (U0 / VB 4294967296 v), NB 4294967296 (U0 % VB 4294967296 v / 2 ^ s)) := by
      intro z' a1 a2 a3
      obtain ⟨b1, b2⟩ := long_next A w z' C i m U0 _ _ hlA hlw a1 HC.out a3 he.out
      refine ih (A ++ z' ++ C) _ U0 (by omega) ?_ hlset (WB_append.2 ⟨WB_append.2 ⟨hWA, a2⟩, hWC⟩) hWset ⟨?_⟩ ⟨?_⟩
      · rw [List.length_append, List.length_append] at hlu ⊢
        omega
      · rw [b2]
        exact Nat.mod_lt _ HV.out
      · rw [HQN.out]
        exact b1
    have hstep : ∀ k, nat_long.l0 (k + 1) (s : Int) (A ++ w ++ C) v (m : Int) quo (top : Int) (next : Int) (((i + 1 : Nat) : Int) - 1) = (nat_guess.f k w (top : Int) (next : Int)).bind fun t203 => ((nat_offX.f k (A ++ w ++ C) (i : Int) ((i + m + 1 : Nat) : Int) v t203).bind fun bt204 => (if bt204.1 = true then ((nat_backX.f k bt204.2 (i : Int) ((i + m + 1 : Nat) : Int) v).bind fun t206 => (if (i : Int) < (quo.length : Int) then (nat_long.l0 k (s : Int) t206 v (m : Int) (quo.set (i : Int).toNat ((IntKind.u64.wrap (t203 - 1)) % 4294967296)) (top : Int) (next : Int) (wrap64 ((i : Int) - 1))) else (none))) else (if (i : Int) < (quo.length : Int) then (nat_long.l0 k (s : Int) bt204.2 v (m : Int) (quo.set (i : Int).toNat ((t203) % 4294967296)) (top : Int) (next : Int) (wrap64 ((i : Int) - 1))) else (none)))) := by
      intro k
      simp only [nat_long.l0]
      rw [show ((i + 1 : Nat) : Int) - 1 = (i : Int) from by omega, if_pos (by omega), if_pos (by omega), HE1.out, if_pos (by omega), if_pos (by omega), Int.toNat_natCast, Int.toNat_natCast, hmid]
    refine Ev.step hstep ?_
    refine Ev.bind hg (Ev.bind ho ?_)
    have hd' : d = 0 ∨ d = 1 := by omega
    rcases hd' with e | e
    · obtain ⟨c1, c2⟩ := HW.out.1 e
      have HC1 := Aside0.mk c1
      clear c1
      refine Ev.congr (fun k => ?_) (next' z (by omega) hz2 c2)
      rw [e, if_neg (show ¬ ((((0 : Nat) : Int) != 0) = true) from by decide), if_pos (by omega), HE2.out, Int.toNat_natCast, nmod32, Nat.mod_eq_of_lt hq1, HC1.out]
    · obtain ⟨c1, c2⟩ := HW.out.2 e
      obtain ⟨z', c', y1, y2, y3, y4, y5⟩ := backX_f A z C v i (i + m + 1) hlA (by omega) hz2 hWv (by omega) (by omega) (by omega)
      have hzM := VB_lt (by omega) y2
      rw [y1, hz1] at hzM
      rw [hz1] at y4
      have c3 := c2 _ c' y3 hzM y4
      have HC1 := Aside0.mk c1
      clear c1 c2 y4 hzM
      refine Ev.congr (fun k => ?_) (Ev.bind (f := fun k t206 => nat_long.l0 k (s : Int) t206 v (m : Int) (quo.set i ((VB 4294967296 w / VB 4294967296 v : Nat) : Int)) (top : Int) (next : Int) ((i : Int) - 1)) y5 (next' z' (by omega) y2 c3))
      have hq0 : 0 < q := by rw [HC1.out]; exact Nat.succ_pos _
      have hd1 : (IntKind.u64.wrap ((q : Int) - 1)) % 4294967296 = ((q - 1 : Nat) : Int) := by rw [u64in _ (by omega) (by omega)]; omega
      have hd2 : q - 1 = VB 4294967296 w / VB 4294967296 v := by rw [HC1.out]; rfl
      rw [e, if_pos (show (((1 : Nat) : Int) != 0) = true from by decide)]
      congr 1
      funext t206
      rw [if_pos (by omega), HE2.out, Int.toNat_natCast, hd1, hd2]
end Go.Proofs.Ytafhcchjjlbojaa.ZNatP
