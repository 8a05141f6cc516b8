/- What the printed functions of nat come to, told of numbers: showing in decimal. -/
import Derived.Test.YtafhcchjjlbojaaNum
import Derived.Test.YtafhcchjjlbojaaStr
import Derived.Test.YtafhcchjjlbojaaNatA
import Derived.Test.YtafhcchjjlbojaaNatD
import Derived.Test.YtafhcchjjlbojaaZNatgDiv
namespace Go.Proofs.Ytafhcchjjlbojaa.ZNatP
open Go.RowKit Go.Proofs.YtafhcchjjlbojaaW.PrintWords Go.Proofs.YtafhcchjjlbojaaW.PrintLast Go.Proofs.YtafhcchjjlbojaaW.PrintMore Go.Proofs.Ytafhcchjjlbojaa.Num Go.Proofs.Ytafhcchjjlbojaa.ZNat
set_option linter.unusedVariables false
set_option linter.unusedSimpArgs false

theorem rev_l0 : ∀ (n : Nat) (mid A C : List Int), mid.length ≤ n → (A ++ mid ++ C).length < 4611686018427387904 →
    Ev (fun k => slices_Reverse_byte_byte.l0 k (A ++ mid ++ C) (A.length : Int) ((A.length : Int) + mid.length - 1)) (A ++ mid.reverse ++ C) := by
  intro n
  induction n with
  | zero =>
    intro mid A C h hb
    obtain rfl := List.length_eq_zero_iff.1 (Nat.le_zero.1 h)
    refine Ev.step (f := fun _ => some (A ++ [] ++ C)) (fun k => ?_) (Ev.now _)
    show slices_Reverse_byte_byte.l0 (k + 1) _ _ _ = _
    simp only [slices_Reverse_byte_byte.l0]
    rw [if_neg (by simp; omega)]
  | succ n ih =>
    intro mid A C h hb
    rcases mid with _ | ⟨x, mid⟩
    · refine Ev.step (f := fun _ => some (A ++ [] ++ C)) (fun k => ?_) (Ev.now _)
      show slices_Reverse_byte_byte.l0 (k + 1) _ _ _ = _
      simp only [slices_Reverse_byte_byte.l0]
      rw [if_neg (by simp; omega)]
    rcases List.eq_nil_or_concat mid with rfl | ⟨m, y, rfl⟩
    · refine Ev.step (f := fun _ => some (A ++ [x] ++ C)) (fun k => ?_) (Ev.now _)
      show slices_Reverse_byte_byte.l0 (k + 1) _ _ _ = _
      simp only [slices_Reverse_byte_byte.l0]
      rw [if_neg (by simp)]
    · rw [List.concat_eq_append] at *
      have hm : m.length ≤ n := by simp at h; omega
      have hg := ih m (A ++ [y]) ([x] ++ C) hm (by simp at hb ⊢; omega)
      have e1 : (A ++ [y]) ++ m.reverse ++ ([x] ++ C) = A ++ (x :: (m ++ [y])).reverse ++ C := by simp
      rw [e1] at hg
      refine Ev.step (fun k => ?_) hg
      show slices_Reverse_byte_byte.l0 (k + 1) _ _ _ = _
      have hl : (A ++ x :: (m ++ [y]) ++ C).length = A.length + m.length + 2 + C.length := by simp; omega
      have ej : (A.length : Int) + ((x :: (m ++ [y])).length : Int) - 1 = ((A.length + m.length + 1 : Nat) : Int) := by simp; omega
      have f1 : A ++ x :: (m ++ [y]) ++ C = A ++ x :: (m ++ y :: C) := by simp
      have f2 : A ++ x :: (m ++ y :: C) = (A ++ x :: m) ++ y :: C := by simp
      have lj : (A ++ x :: m).length = A.length + m.length + 1 := by simp; omega
      have ri : rd (A ++ x :: (m ++ y :: C)) ((A.length : Nat) : Int) = x := rd_mid A x _
      have rj : rd (A ++ x :: (m ++ y :: C)) ((A.length + m.length + 1 : Nat) : Int) = y := by rw [f2, ← lj]; exact rd_mid _ y C
      have st : ((A ++ x :: (m ++ y :: C)).set A.length y).set (A.length + m.length + 1) x = A ++ [y] ++ m ++ ([x] ++ C) := by
        rw [set_mid A x y, show A ++ y :: (m ++ y :: C) = (A ++ y :: m) ++ y :: C from by simp, show A.length + m.length + 1 = (A ++ y :: m).length from by simp; omega, set_mid]
        simp
      have E1 := Aside0.mk (wsucc A.length (by omega))
      have E2 := Aside0.mk (wpred (A.length + m.length + 1) (by omega))
      simp only [slices_Reverse_byte_byte.l0]
      rw [ej, if_pos (by omega), if_pos (by omega), hl, if_pos (by omega), if_pos (by omega), if_pos (by omega), f1, ri, rj, Int.toNat_natCast, Int.toNat_natCast, st, E1.out, E2.out]
      congr 1
      · simp
      · simp; omega
theorem rev_f (l : List Int) (h : l.length < 4611686018427387904) : Ev (fun k => slices_Reverse_byte_byte.f k l) l.reverse := by
  unfold slices_Reverse_byte_byte.f
  have := rev_l0 _ l [] [] (Nat.le_refl _) (by simpa using h)
  simp only [List.nil_append, List.append_nil] at this
  refine Ev.congr (fun k => ?_) this
  rw [wpred _ (by omega)]
  simp
/-- t digits of c, the lowest first. -/
def digs : Nat → Nat → List Int
  | 0, _ => []
  | t + 1, c => ((c % 10 : Nat) : Int) :: digs t (c / 10)
theorem digs_len : ∀ (t c : Nat), (digs t c).length = t
  | 0, _ => rfl
  | t + 1, c => by rw [digs, List.length_cons, digs_len t]
theorem digs_WB : ∀ (t c : Nat), WB 10 (digs t c)
  | 0, _ => WB_nil _
  | t + 1, c => WB_cons.2 ⟨by omega, digs_WB t _⟩
theorem digs_VB : ∀ (t c : Nat), VB 10 (digs t c) = c % 10 ^ t
  | 0, c => by simp [digs, VB, Nat.mod_one]
  | t + 1, c => by
    rw [digs, VB, digs_VB t, Int.toNat_natCast, Nat.pow_succ, Nat.mul_comm (10 ^ t), Nat.mod_mul]
theorem show_l1 (q : List Int) (r : ByteArray) : ∀ (t i : Nat) (d : List Int) (c : Nat), i + t = 9 → c < 4294967296 → d.length + t < 140737488355328 →
    Ev (fun k => nat_show.l0 k q (Ch (d ++ digs t c))) r → Ev (fun k => nat_show.l1 k q (Ch d) (c : Int) (i : Int)) r := by
  intro t
  induction t with
  | zero =>
    intro i d c hi hc hb h
    refine Ev.step (fun k => ?_) h
    show nat_show.l1 (k + 1) q (Ch d) (c : Int) (i : Int) = _
    simp only [nat_show.l1]
    rw [if_neg (by omega), digs, List.append_nil]
  | succ t ih =>
    intro i d c hi hc hb h
    refine Ev.step (fun k => ?_) (ih (i + 1) (d ++ [((c % 10 : Nat) : Int)]) (c / 10) (by omega) (by omega) (by simp; omega) ?_)
    · show nat_show.l1 (k + 1) q (Ch d) (c : Int) (i : Int) = _
      simp only [nat_show.l1]
      have hl := Ch_length d
      have e1 : (48 + Int.tmod (c : Int) 10) % 256 = 48 + ((c % 10 : Nat) : Int) := by
        rw [show (10 : Int) = ((10 : Nat) : Int) from rfl, tmodN]; omega
      have e2 : (Int.tdiv (c : Int) 10) % 4294967296 = ((c / 10 : Nat) : Int) := by
        rw [show (10 : Int) = ((10 : Nat) : Int) from rfl, tdivN]; omega
      rw [if_pos (by omega), if_pos (by omega), e1, e2, wsucc i (by omega), Ch_append]
      rfl
    · rw [List.append_assoc]
      exact h
/-- The zeros in front fall; then all is turned round. -/
theorem show_l2 : ∀ (n : Nat) (d : List Int), d.length = n → WB 10 d → n < 4611686018427387904 → Ev (fun k => nat_show.l2 k (Ch d)) (showS (VB 10 d)) := by
  intro n
  induction n with
  | zero =>
    intro d hd hW hb
    obtain rfl := List.length_eq_zero_iff.1 hd
    refine Ev.step (f := fun _ => some (⟨#[48]⟩ : ByteArray)) (fun k => ?_) ?_
    · show nat_show.l2 (k + 1) (Ch []) = _
      simp only [nat_show.l2]
      rw [if_neg (by simp [Ch]), if_pos (by simp [Ch])]
    · exact Ev.now _
  | succ n ih =>
    intro d hd hW hb
    rcases List.eq_nil_or_concat d with rfl | ⟨m, x, rfl⟩
    · simp at hd
    rw [List.concat_eq_append] at *
    have hm : m.length = n := by simpa using hd
    obtain ⟨hWm, hWx⟩ := WB_append.1 hW
    have hx := (WB_cons.1 hWx).1
    have hl : (Ch (m ++ [x])).length = n + 1 := by rw [Ch_length]; simp [hm]
    have hw : wrap64 (((Ch (m ++ [x])).length : Int) - 1) = (n : Int) := by rw [hl, w64in _ (by omega) (by omega)]; omega
    have hr : rd (Ch (m ++ [x])) (n : Int) = 48 + x := by
      rw [Ch_append, ← hm, ← Ch_length m]
      exact rd_mid _ _ _
    have ht : (Ch (m ++ [x])).take n = Ch m := by rw [Ch_append, ← hm, ← Ch_length m, List.take_left]
    have HW := Aside0.mk hw
    clear hw
    by_cases h0 : x = 0
    · have e : VB 10 (m ++ [x]) = VB 10 m := by rw [VB_snoc, h0]; simp
      rw [e]
      refine Ev.step (fun k => ?_) (ih m hm hWm (by omega))
      show nat_show.l2 (k + 1) (Ch (m ++ [x])) = _
      simp only [nat_show.l2]
      rw [HW.out, hr, if_pos (by omega), if_pos (by omega), if_pos (by omega), if_pos (by omega), if_pos (by omega), Int.toNat_natCast, ht]
    · have hc := NB_canon (by omega) _ hW (fun m' y e => by
        have := List.append_inj' e rfl
        have h2 : x = y := by simpa using this.2
        rw [← h2]; exact h0)
      have hne : VB 10 (m ++ [x]) ≠ 0 := fun e => by
        rw [e, NB_zero] at hc
        simp at hc
      have hs : showS (VB 10 (m ++ [x])) = strOfNums (Ch (m ++ [x])).reverse := by
        unfold showS decS
        rw [if_neg hne, hc]
      rw [hs]
      refine Ev.step (fun k => ?c) (Ev.bind (f := ?F) (rev_f (Ch (m ++ [x])) (by omega)) ?d)
      case c =>
        show nat_show.l2 (k + 1) (Ch (m ++ [x])) = _
        simp only [nat_show.l2]
        rw [HW.out, hr, if_pos (by omega), if_pos (by omega), if_pos (by omega), if_neg (by omega), if_neg (by omega)]
      case d => exact Ev.now _
theorem show_num (d : List Int) (n : Nat) : VB 10 (d ++ digs 9 (n % 1000000000)) + 10 ^ (d ++ digs 9 (n % 1000000000)).length * (n / 1000000000) = VB 10 d + 10 ^ d.length * n := by
  rw [VB_append, digs_VB, List.length_append, digs_len, show (10 : Nat) ^ 9 = 1000000000 from rfl, Nat.mod_mod, Nat.pow_add, show (10 : Nat) ^ 9 = 1000000000 from rfl]
  have := Nat.div_add_mod n 1000000000
  have h2 : 10 ^ d.length * 1000000000 * (n / 1000000000) = 10 ^ d.length * (1000000000 * (n / 1000000000)) := Nat.mul_assoc _ _ _
  rw [h2, Nat.add_assoc, ← Nat.mul_add, Nat.add_comm (n % 1000000000), this]
theorem show_l0 : ∀ (j n : Nat) (d : List Int), n < 1000000000 ^ j → (NB 4294967296 n).length < 35184372088831 → WB 10 d → d.length + 9 * j < 140737488355328 →
    Ev (fun k => nat_show.l0 k (NB 4294967296 n) (Ch d)) (showS (VB 10 d + 10 ^ d.length * n)) := by
  intro j
  induction j with
  | zero =>
    intro n d hn hl hW hb
    have h0 : n = 0 := by rw [Nat.pow_zero] at hn; omega
    subst h0
    rw [NB_zero, Nat.mul_zero, Nat.add_zero]
    refine Ev.step (fun k => ?_) (show_l2 _ d rfl hW (by omega))
    show nat_show.l0 (k + 1) [] (Ch d) = _
    simp only [nat_show.l0]
    rw [if_neg (by simp)]
  | succ j ih =>
    intro n d hn hl hW hb
    by_cases h0 : n = 0
    · subst h0
      rw [NB_zero, Nat.mul_zero, Nat.add_zero]
      refine Ev.step (fun k => ?_) (show_l2 _ d rfl hW (by omega))
      show nat_show.l0 (k + 1) [] (Ch d) = _
      simp only [nat_show.l0]
      rw [if_neg (by simp)]
    · have hne : (NB 4294967296 n).length ≠ 0 := fun e => h0 ((NB_len0 (b := 4294967296) (by omega) n).1 e)
      obtain ⟨z, z1, z2, z3, z4⟩ := short_f (NB 4294967296 n) 1000000000 (by omega) (by omega) (WB_NB _ _) hl
      have t1 := trim_own_f z z2 (by omega)
      rw [VB_NB (by omega)] at z3 z4
      rw [z3] at t1
      have hq : n / 1000000000 < 1000000000 ^ j := by
        rw [Nat.div_lt_iff_lt_mul (by omega), ← Nat.pow_succ]
        exact hn
      have hl2 : (NB 4294967296 (n / 1000000000)).length ≤ (NB 4294967296 n).length := NB_length_mono (by omega) (Nat.div_le_self _ _)
      have HQ := Aside0.mk hq
      have HN := Aside0.mk hn
      clear hq hn
      have hnum := show_num d n
      have hlen := digs_len 9 (n % 1000000000)
      have hdl : (d ++ digs 9 (n % 1000000000)).length = d.length + 9 := by rw [List.length_append, hlen]
      have hg := ih (n / 1000000000) (d ++ digs 9 (n % 1000000000)) HQ.out (by omega) (WB_append.2 ⟨hW, digs_WB _ _⟩) (by omega)
      rw [hnum] at hg
      have hr := show_l1 _ _ 9 0 d (n % 1000000000) rfl (by omega) (by omega) hg
      refine Ev.step (fun k => ?c) (Ev.bind (f := ?F) z4 ?d)
      case c =>
        show nat_show.l0 (k + 1) (NB 4294967296 n) (Ch d) = _
        simp only [nat_show.l0]
        rw [if_pos (by omega)]
        exact rfl
      case d =>
        refine Ev.bind t1 ?_
        exact hr
theorem pow_18 (n : Nat) : 4294967296 ^ n ≤ 1000000000 ^ (2 * n) := by
  rw [Nat.pow_mul]
  exact Nat.pow_le_pow_left (by decide) n
theorem Show_f (a : List Int) (ha : WB 4294967296 a) (la : a.length < 1000000000000) : Ev (fun k => nat_Show.f k a) (showS (VB 4294967296 a)) := by
  have h1 : Ev (fun k => nat_show.f k a) (showS (VB 4294967296 a)) := by
    unfold nat_show.f
    have hl := NBV_len (b := 4294967296) (by omega) ha
    have hv := Nat.lt_of_lt_of_le (VB_lt (by omega) ha) (pow_18 a.length)
    have HV := Aside0.mk hv
    clear hv
    refine Ev.bind (trim_f a ha (by omega)) ?_
    have h2 := show_l0 (2 * a.length) (VB 4294967296 a) [] HV.out (by omega) (WB_nil _) (by simp; omega)
    rw [VB, List.length_nil, Nat.pow_zero, Nat.one_mul, Nat.zero_add] at h2
    refine Ev.congr (fun k => ?_) h2
    rw [clone_f _ (by omega), Option.bind_some]
    rfl
  unfold nat_Show.f
  refine Ev.bind h1 (Ev.now _)
end Go.Proofs.Ytafhcchjjlbojaa.ZNatP
