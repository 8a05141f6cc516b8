/- Numbers as lists of digits to a base: plain law, no program. -/
import Derived.Test.YtmfmojldebhboaaDoorMine
import Derived.Laws.BitsLemmas
import Derived.IntWalk
namespace Go.Proofs.YtmfmojldebhboaaDoor.Num
open Go.RowKit Go.Proofs.YtmfmojldebhboaaDoorW.PrintWords Go.Proofs.YtmfmojldebhboaaDoorW.PrintLast Go.Proofs.YtmfmojldebhboaaDoorW.PrintMore
set_option linter.unusedVariables false
set_option linter.unusedSimpArgs false

theorem u64w (n : Int) : IntKind.u64.wrap n = n % 18446744073709551616 := by
  simp [IntKind.wrap, IntKind.bits, IntKind.signed]
theorem u64in (n : Int) (h0 : 0 ≤ n) (h1 : n < 18446744073709551616) : IntKind.u64.wrap n = n := by rw [u64w]; omega
theorem w64in (n : Int) (h0 : -9223372036854775808 ≤ n) (h1 : n < 9223372036854775808) : wrap64 n = n := by unfold wrap64; omega

theorem wsucc (j : Nat) (h : j < 9223372036854775807) : wrap64 ((j : Int) + 1) = ((j + 1 : Nat) : Int) := by unfold wrap64; omega
theorem wadd (i j : Nat) (h : i + j < 9223372036854775808) : wrap64 ((i : Int) + (j : Int)) = ((i + j : Nat) : Int) := by unfold wrap64; omega
theorem wpred (j : Nat) (h : j < 9223372036854775808) : wrap64 ((j : Int) - 1) = (j : Int) - 1 := by unfold wrap64; omega
theorem wsub (i j : Nat) (h : i < 9223372036854775808) (hj : j ≤ i) : wrap64 ((i : Int) - (j : Int)) = ((i - j : Nat) : Int) := by unfold wrap64; omega
/-- What digits to the base b, the lowest first, are worth. -/
def VB (b : Nat) : List Int → Nat
  | [] => 0
  | x :: xs => x.toNat + b * VB b xs
/-- All digits lie below the base. -/
def WB (b : Nat) (l : List Int) : Prop := ∀ x ∈ l, 0 ≤ x ∧ x < (b : Int)
/-- A number's digits to the base b, none at the end a nought. -/
def NB (b : Nat) (n : Nat) : List Int := if h : n = 0 ∨ b < 2 then [] else ((n % b : Nat) : Int) :: NB b (n / b)
  termination_by n
  decreasing_by exact Nat.div_lt_self (by omega) (by omega)

theorem NB_zero (b : Nat) : NB b 0 = [] := by rw [NB]; simp
theorem NB_pos {b n : Nat} (hb : 2 ≤ b) (hn : 0 < n) : NB b n = ((n % b : Nat) : Int) :: NB b (n / b) := by
  rw [NB, dif_neg (by omega)]
theorem WB_nil (b : Nat) : WB b [] := fun x hx => by cases hx
theorem WB_cons {b : Nat} {x : Int} {xs : List Int} : WB b (x :: xs) ↔ (0 ≤ x ∧ x < (b : Int)) ∧ WB b xs := by
  unfold WB; simp
theorem WB_append {b : Nat} {l m : List Int} : WB b (l ++ m) ↔ WB b l ∧ WB b m := by
  unfold WB
  constructor
  · intro h; exact ⟨fun x hx => h x (List.mem_append_left _ hx), fun x hx => h x (List.mem_append_right _ hx)⟩
  · rintro ⟨h1, h2⟩ x hx
    rcases List.mem_append.1 hx with h | h
    · exact h1 x h
    · exact h2 x h
theorem WB_take {b : Nat} {l : List Int} (h : WB b l) (i : Nat) : WB b (l.take i) := fun x hx => h x (List.mem_of_mem_take hx)
theorem WB_drop {b : Nat} {l : List Int} (h : WB b l) (i : Nat) : WB b (l.drop i) := fun x hx => h x (List.mem_of_mem_drop hx)
theorem WB_NB (b n : Nat) : WB b (NB b n) := by
  induction n using Nat.strongRecOn with
  | _ n ih =>
    rw [NB]
    split
    · exact WB_nil b
    · rename_i h
      rw [WB_cons]
      have : n % b < b := Nat.mod_lt _ (by omega)
      exact ⟨⟨by omega, by omega⟩, ih _ (Nat.div_lt_self (by omega) (by omega))⟩
theorem VB_NB {b : Nat} (hb : 2 ≤ b) (n : Nat) : VB b (NB b n) = n := by
  induction n using Nat.strongRecOn with
  | _ n ih =>
    rcases Nat.eq_zero_or_pos n with rfl | hn
    · rw [NB_zero]; rfl
    · rw [NB_pos hb hn]
      show ((n % b : Nat) : Int).toNat + b * VB b (NB b (n / b)) = n
      rw [ih _ (Nat.div_lt_self hn (by omega)), Int.toNat_natCast]
      exact Nat.mod_add_div n b
theorem VB_append (b : Nat) (l m : List Int) : VB b (l ++ m) = VB b l + b ^ l.length * VB b m := by
  induction l with
  | nil => simp [VB]
  | cons x xs ih =>
    simp only [List.cons_append, VB, List.length_cons, ih]
    grind
theorem VB_lt {b : Nat} (hb : 2 ≤ b) {l : List Int} (h : WB b l) : VB b l < b ^ l.length := by
  induction l with
  | nil => simp [VB]
  | cons x xs ih =>
    obtain ⟨⟨h0, h1⟩, h2⟩ := WB_cons.1 h
    have h3 := ih h2
    simp only [VB, List.length_cons]
    have h4 : x.toNat < b := by omega
    have h5 : b * (VB b xs + 1) ≤ b * b ^ xs.length := Nat.mul_le_mul_left b h3
    rw [Nat.pow_succ, Nat.mul_comm (b ^ xs.length) b]
    grind
/-- A list whose last digit is no nought is its number's. -/
theorem NB_canon {b : Nat} (hb : 2 ≤ b) (l : List Int) (h : WB b l) (hl : ∀ m x, l = m ++ [x] → x ≠ 0) : NB b (VB b l) = l := by
  induction l with
  | nil => simp [VB, NB_zero]
  | cons x xs ih =>
    obtain ⟨⟨h0, h1⟩, h2⟩ := WB_cons.1 h
    have h3 := ih h2 (fun m y e => hl (x :: m) y (by rw [e]; rfl))
    have hpos : 0 < VB b (x :: xs) := by
      rcases xs with _ | ⟨y, ys⟩
      · have := hl [] x rfl
        simp only [VB]
        omega
      · rcases Nat.eq_zero_or_pos (VB b (y :: ys)) with h4 | h4
        · rw [h4, NB_zero] at h3
          cases h3
        · have : 0 < b * VB b (y :: ys) := Nat.mul_pos (by omega) h4
          show 0 < x.toNat + b * VB b (y :: ys)
          omega
    rw [NB_pos hb hpos]
    have e1 : VB b (x :: xs) % b = x.toNat := by
      show (x.toNat + b * VB b xs) % b = x.toNat
      rw [Nat.add_mul_mod_self_left]
      exact Nat.mod_eq_of_lt (by omega)
    have e2 : VB b (x :: xs) / b = VB b xs := by
      show (x.toNat + b * VB b xs) / b = VB b xs
      rw [Nat.add_mul_div_left _ _ (by omega), Nat.div_eq_of_lt (by omega), Nat.zero_add]
    rw [e1, e2, h3, Int.toNat_of_nonneg h0]
theorem NB_last {b : Nat} (hb : 2 ≤ b) (n : Nat) (m : List Int) (x : Int) (h : NB b n = m ++ [x]) : x ≠ 0 := by
  induction n using Nat.strongRecOn generalizing m with
  | _ n ih =>
    rcases Nat.eq_zero_or_pos n with rfl | hn
    · rw [NB_zero] at h
      simp at h
    · rw [NB_pos hb hn] at h
      rcases m with _ | ⟨y, ys⟩
      · simp only [List.nil_append, List.cons.injEq] at h
        obtain ⟨h1, h2⟩ := h
        have h3 := VB_NB hb (n / b)
        rw [h2] at h3
        have h4 : n / b = 0 := h3.symm
        have h5 : n % b = n := Nat.mod_eq_of_lt (by
          rcases Nat.lt_or_ge n b with h | h
          · exact h
          · have := Nat.div_pos h (by omega); omega)
        rw [h5] at h1
        omega
      · simp only [List.cons_append, List.cons.injEq] at h
        exact ih _ (Nat.div_lt_self hn (by omega)) ys h.2
theorem NB_length_le {b : Nat} (hb : 2 ≤ b) (n j : Nat) (h : n < b ^ j) : (NB b n).length ≤ j := by
  induction j generalizing n with
  | zero =>
    have : n = 0 := by simpa using h
    subst this
    rw [NB_zero]
    simp
  | succ j ih =>
    rcases Nat.eq_zero_or_pos n with rfl | hn
    · rw [NB_zero]; simp
    · rw [NB_pos hb hn, List.length_cons]
      have : n / b < b ^ j := by
        rw [Nat.div_lt_iff_lt_mul (by omega)]
        rwa [Nat.pow_succ] at h
      have := ih _ this
      omega
theorem NB_lt_length {b : Nat} (hb : 2 ≤ b) (n : Nat) : n < b ^ (NB b n).length := by
  have := VB_lt hb (WB_NB b n)
  rwa [VB_NB hb] at this
theorem NB_length_gt {b : Nat} (hb : 2 ≤ b) (n j : Nat) (h : b ^ j ≤ n) : j < (NB b n).length := by
  have h1 := NB_lt_length hb n
  rcases Nat.lt_or_ge j (NB b n).length with h2 | h2
  · exact h2
  · have := Nat.pow_le_pow_right (show 0 < b by omega) h2
    omega
theorem NB_eq_nil {b : Nat} (hb : 2 ≤ b) (n : Nat) : NB b n = [] ↔ n = 0 := by
  constructor
  · intro h
    have := VB_NB hb n
    rw [h] at this
    exact this.symm
  · rintro rfl
    exact NB_zero b
theorem NB_len0 {b : Nat} (hb : 2 ≤ b) (n : Nat) : (NB b n).length = 0 ↔ n = 0 := by rw [List.length_eq_zero_iff, NB_eq_nil hb]
theorem NB_inj {b : Nat} (hb : 2 ≤ b) {m n : Nat} (h : NB b m = NB b n) : m = n := by
  have := congrArg (VB b) h
  rwa [VB_NB hb, VB_NB hb] at this

theorem NBV_len {b : Nat} (hb : 2 ≤ b) {l : List Int} (h : WB b l) : (NB b (VB b l)).length ≤ l.length := NB_length_le hb _ _ (VB_lt hb h)
theorem nmod32 (n : Nat) : ((n : Nat) : Int) % 4294967296 = ((n % 4294967296 : Nat) : Int) := by omega
theorem ndiv32 (n : Nat) : ((n : Nat) : Int) / 4294967296 = ((n / 4294967296 : Nat) : Int) := by omega
theorem nmod16 (n : Nat) : Int.tmod ((n : Nat) : Int) 65536 = ((n % 65536 : Nat) : Int) := by rw [Int.tmod_eq_emod_of_nonneg (by omega)]; omega
theorem ndiv16 (n : Nat) : Int.tdiv ((n : Nat) : Int) 65536 = ((n / 65536 : Nat) : Int) := by rw [Int.tdiv_eq_ediv_of_nonneg (by omega)]; omega
/-! reading -/
theorem rd_nat (l : List Int) (i : Nat) : rd l (i : Int) = l.getD i 0 := by simp [rd]
theorem rd_get (l : List Int) (i : Nat) (h : i < l.length) : rd l (i : Int) = l[i] := by
  rw [rd_nat, List.getD_eq_getElem?_getD, List.getElem?_eq_getElem h]; rfl
theorem WB_rd {b : Nat} {l : List Int} (h : WB b l) (i : Nat) (hi : i < l.length) : 0 ≤ rd l (i : Int) ∧ rd l (i : Int) < (b : Int) := by
  rw [rd_get l i hi]; exact h _ (List.getElem_mem hi)
theorem take_rd (l : List Int) (i : Nat) (h : i < l.length) : l.take (i + 1) = l.take i ++ [rd l (i : Int)] := by
  rw [List.take_succ_eq_append_getElem h, rd_get l i h]
theorem VB_take_succ (b : Nat) (l : List Int) (i : Nat) (h : i < l.length) : VB b (l.take (i + 1)) = VB b (l.take i) + b ^ i * (rd l (i : Int)).toNat := by
  rw [take_rd l i h, VB_append]
  have : (l.take i).length = i := by rw [List.length_take]; omega
  rw [this]
  simp [VB]
theorem VB_snoc (b : Nat) (l : List Int) (x : Int) : VB b (l ++ [x]) = VB b l + b ^ l.length * x.toNat := by
  rw [VB_append]; simp [VB]
theorem VB_split (b : Nat) (l : List Int) (i : Nat) (hi : i ≤ l.length) : VB b l = VB b (l.take i) + b ^ i * VB b (l.drop i) := by
  conv => lhs; rw [← List.take_append_drop i l]
  rw [VB_append]
  have : (l.take i).length = i := by rw [List.length_take]; omega
  rw [this]
theorem VB_drop_rd (b : Nat) (l : List Int) (i : Nat) (h : i < l.length) : VB b (l.drop i) = (rd l (i : Int)).toNat + b * VB b (l.drop (i + 1)) := by
  rw [List.drop_eq_getElem_cons h, rd_get l i h]
  rfl
/-- The length of digits tells which number is greater, if they differ. -/
theorem NB_length_mono {b : Nat} (hb : 2 ≤ b) {m n : Nat} (h : m ≤ n) : (NB b m).length ≤ (NB b n).length :=
  NB_length_le hb m _ (Nat.lt_of_le_of_lt h (NB_lt_length hb n))
theorem take_all_rd (b : Nat) (l : List Int) (i : Nat) : VB b (l.take (i + 1)) = VB b (l.take i) + b ^ i * (if i < l.length then (rd l (i : Int)).toNat else 0) := by
  split
  · rename_i h; exact VB_take_succ b l i h
  · rename_i h
    rw [List.take_of_length_le (by omega), List.take_of_length_le (by omega)]
    simp
theorem VB_set (b : Nat) : ∀ (l : List Int) (n : Nat) (v : Int), n < l.length → VB b (l.set n v) + b ^ n * (rd l (n : Int)).toNat = VB b l + b ^ n * v.toNat := by
  intro l
  induction l with
  | nil => intro n v h; simp at h
  | cons x xs ih =>
    intro n v h
    cases n with
    | zero => simp only [List.set_cons_zero, VB, rd_nat]; simp; omega
    | succ n =>
      have h1 := ih n v (by simpa using h)
      have h2 : rd (x :: xs) ((n + 1 : Nat) : Int) = rd xs (n : Int) := by rw [rd_nat, rd_nat]; rfl
      rw [h2]
      simp only [List.set_cons_succ, VB]
      have h3 := congrArg (b * ·) h1
      simp only [Nat.mul_add] at h3
      rw [Nat.pow_succ]
      have e1 : b ^ n * b * (rd xs (n : Int)).toNat = b * (b ^ n * (rd xs (n : Int)).toNat) := by rw [Nat.mul_comm (b ^ n) b, Nat.mul_assoc]
      have e2 : b ^ n * b * v.toNat = b * (b ^ n * v.toNat) := by rw [Nat.mul_comm (b ^ n) b, Nat.mul_assoc]
      rw [e1, e2]
      generalize b * (b ^ n * (rd xs (n : Int)).toNat) = p at *
      generalize b * (b ^ n * v.toNat) = q at *
      omega
theorem WB_set {b : Nat} {l : List Int} (h : WB b l) (n : Nat) (v : Int) (h0 : 0 ≤ v) (h1 : v < (b : Int)) : WB b (l.set n v) := by
  intro x hx
  rcases List.mem_or_eq_of_mem_set hx with h2 | rfl
  · exact h x h2
  · exact ⟨h0, h1⟩
theorem rd_set (l : List Int) (n m : Nat) (v : Int) (h : n < l.length) : rd (l.set n v) (m : Int) = if m = n then v else rd l (m : Int) := by
  rw [rd_nat, rd_nat, List.getD_eq_getElem?_getD, List.getD_eq_getElem?_getD, List.getElem?_set]
  by_cases e : n = m
  · subst e; simp [h]
  · rw [if_neg e, if_neg (fun h => e h.symm)]
theorem WB_rep (b n : Nat) (hb : 0 < b) : WB b (List.replicate n 0) := by
  intro x hx
  have := List.eq_of_mem_replicate hx
  omega
theorem VB_rep (b n : Nat) : VB b (List.replicate n 0) = 0 := by
  induction n with
  | zero => rfl
  | succ n ih => simp [List.replicate_succ, VB, ih]
theorem rd_rep (n m : Nat) : rd (List.replicate n 0) (m : Int) = 0 := by
  rw [rd_nat, List.getD_eq_getElem?_getD, List.getElem?_replicate]
  split <;> rfl
/-- One step of a sum: the digit, and what is carried. -/
theorem carry_step (b i o s : Nat) : o + b ^ i * (s % b) + b ^ (i + 1) * (s / b) = o + b ^ i * s := by
  have h := Nat.mod_add_div s b
  rw [Nat.pow_succ, Nat.mul_assoc, Nat.add_assoc, ← Nat.mul_add, h]
theorem mul_step (b i j c z x y vo vo' vb vb' S : Nat) (h1 : vo' + b ^ (i + j) * z = vo + b ^ (i + j) * ((c + (z + x * y)) % b)) (h2 : vo + b ^ (i + j) * c = S + b ^ i * (x * vb)) (h3 : vb' = vb + b ^ j * y) :
    vo' + b ^ (i + (j + 1)) * ((c + (z + x * y)) / b) = S + b ^ i * (x * vb') := by
  subst h3
  have h4 := carry_step b (i + j) 0 (c + (z + x * y))
  have h5 : b ^ (i + j) * (c + (z + x * y)) = b ^ (i + j) * c + b ^ (i + j) * z + b ^ i * (x * (b ^ j * y)) := by
    rw [Nat.mul_add, Nat.mul_add, Nat.pow_add]
    grind
  rw [Nat.mul_add x, Nat.mul_add (b ^ i), ← Nat.add_assoc i j 1]
  simp only [Nat.zero_add] at h4
  generalize b ^ (i + j) * ((c + (z + x * y)) % b) = g1 at *
  generalize b ^ (i + j + 1) * ((c + (z + x * y)) / b) = g2 at *
  generalize b ^ (i + j) * (c + (z + x * y)) = g3 at *
  generalize b ^ (i + j) * z = g4 at *
  generalize b ^ (i + j) * c = g5 at *
  generalize b ^ i * (x * (b ^ j * y)) = g6 at *
  generalize b ^ i * (x * vb) = g7 at *
  omega
theorem set_zero_step (b n c vo vo' T : Nat) (h1 : vo' + b ^ n * 0 = vo + b ^ n * c) (h2 : vo + b ^ n * c = T) : vo' = T := by
  rw [Nat.mul_zero, Nat.add_zero] at h1
  rw [h1, h2]
/-- Two words as one: 'r<<32 | x'. -/
theorem or32 (r x : Nat) (hr : r < 4294967296) (hx : x < 4294967296) : Go.bits .or .u64 (IntKind.u64.wrap ((r : Int) * 4294967296)) (IntKind.u64.wrap (x : Int)) = ((r * 4294967296 + x : Nat) : Int) := by
  have h1 : IntKind.u64.wrap ((r : Int) * 4294967296) = (r : Int) * 4294967296 := u64in _ (by omega) (by omega)
  have h2 : IntKind.u64.wrap (x : Int) = (x : Int) := u64in _ (by omega) (by omega)
  rw [h1, h2]
  have h3 := bits_join .u64 64 (by decide) (fun n h0 h1 => u64in n h0 (by omega)) 32 ((r : Int) * 4294967296) (x : Int) (by omega) (by omega) (by omega) (by omega) (by omega) (by omega)
  rw [h3]
  omega
theorem or_comm_nat (a b : Nat) (ha : a < 18446744073709551616) (hb : b < 18446744073709551616) : Go.bits .or .u64 (a : Int) (b : Int) = Go.bits .or .u64 (b : Int) (a : Int) := by
  rw [(bits_nat .u64 64 (by decide) (fun n h0 h1 => u64in n h0 (by omega)) a b (by omega) (by omega)).2, (bits_nat .u64 64 (by decide) (fun n h0 h1 => u64in n h0 (by omega)) b a (by omega) (by omega)).2, Nat.or_comm]
/-- A number's bits and lower ones: 'c | x<<by', c below 2^by. -/
theorem orlow (c y s : Nat) (hs : s ≤ 32) (hc : c < 2 ^ s) (hy : y % 2 ^ s = 0) (hy2 : y < 18446744073709551616) : Go.bits .or .u64 (c : Int) (y : Int) = ((c + y : Nat) : Int) := by
  have hp : 2 ^ s ≤ 2 ^ 32 := Nat.pow_le_pow_right (by omega) hs
  rw [or_comm_nat c y (by omega) hy2]
  have h3 := bits_join .u64 64 (by decide) (fun n h0 h1 => u64in n h0 (by omega)) s (y : Int) (c : Int) (by omega) (by exact_mod_cast hy) (by omega) (by omega) (by exact_mod_cast hc) (by omega)
  rw [h3]
  omega
theorem tdivN (x y : Nat) : Int.tdiv (x : Int) (y : Int) = ((x / y : Nat) : Int) := by rw [Int.tdiv_eq_ediv_of_nonneg (by omega)]; rfl
theorem tmodN (x y : Nat) : Int.tmod (x : Int) (y : Int) = ((x % y : Nat) : Int) := by rw [Int.tmod_eq_emod_of_nonneg (by omega)]; rfl
theorem set_mid (l : List Int) (x v : Int) (q : List Int) : (l ++ x :: q).set l.length v = l ++ v :: q := by
  rw [List.set_append_right _ _ (Nat.le_refl _), Nat.sub_self]; rfl
theorem rd_mid (l : List Int) (x : Int) (q : List Int) : rd (l ++ x :: q) (l.length : Int) = x := by
  rw [rd_nat, List.getD_eq_getElem?_getD, List.getElem?_append_right (Nat.le_refl _), Nat.sub_self]; rfl
def cmpN (m n : Nat) : Int := if m < n then -1 else if n < m then 1 else 0
end Go.Proofs.YtmfmojldebhboaaDoor.Num
