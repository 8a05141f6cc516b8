/- The plain law of the models: natural numbers. -/
import Derived.Test.YtofklpmlgfbmlaaGreatC1
import Derived.Laws.BitsLemmas
import Derived.IntWalk
set_option linter.unusedVariables false
set_option linter.unusedSimpArgs false
/- Numbers as lists of digits to a base: plain law, no program. -/
namespace Go.Proofs.YtofklpmlgfbmlaaGreat.Num
open Go.RowKit Go.Proofs.YtofklpmlgfbmlaaGreat.Wd
set_option linter.unusedVariables false
set_option linter.unusedSimpArgs false

theorem u64w (n : Int) : IntKind.u64.wrap n = n % 18446744073709551616 := by
  simp [IntKind.wrap, IntKind.bits, IntKind.signed]
theorem u64in (n : Int) (h0 : 0 ≤ n) (h1 : n < 18446744073709551616) : IntKind.u64.wrap n = n := by rw [u64w]; omega
theorem w64in (n : Int) (h0 : -9223372036854775808 ≤ n) (h1 : n < 9223372036854775808) : wrap64 n = n := by unfold wrap64; omega

theorem wsucc (j : Nat) (h : j < 9223372036854775807) : wrap64 ((j : Int) + 1) = ((j + 1 : Nat) : Int) := by unfold wrap64; omega
theorem wadd (i j : Nat) (h : i + j < 9223372036854775808) : wrap64 ((i : Int) + (j : Int)) = ((i + j : Nat) : Int) := by unfold wrap64; omega
theorem wpred (j : Nat) (h : j < 9223372036854775808) : wrap64 ((j : Int) - 1) = (j : Int) - 1 := by unfold wrap64; omega
theorem wsub (i j : Nat) (h : i < 9223372036854775808) (hj : j ≤ i) : wrap64 ((i : Int) - (j : Int)) = ((i - j : Nat) : Int) := by unfold wrap64; omega
/-- What digits to the base b, the lowest first, are worth. -/
def VB (b : Nat) : List Int → Nat
  | [] => 0
  | x :: xs => x.toNat + b * VB b xs
/-- All digits lie below the base. -/
def WB (b : Nat) (l : List Int) : Prop := ∀ x ∈ l, 0 ≤ x ∧ x < (b : Int)
/-- A number's digits to the base b, none at the end a nought. -/
def NB (b : Nat) (n : Nat) : List Int := if h : n = 0 ∨ b < 2 then [] else ((n % b : Nat) : Int) :: NB b (n / b)
  termination_by n
  decreasing_by exact Nat.div_lt_self (by omega) (by omega)

theorem NB_zero (b : Nat) : NB b 0 = [] := by rw [NB]; simp
theorem NB_pos {b n : Nat} (hb : 2 ≤ b) (hn : 0 < n) : NB b n = ((n % b : Nat) : Int) :: NB b (n / b) := by
  rw [NB, dif_neg (by omega)]
theorem WB_nil (b : Nat) : WB b [] := fun x hx => by cases hx
theorem WB_cons {b : Nat} {x : Int} {xs : List Int} : WB b (x :: xs) ↔ (0 ≤ x ∧ x < (b : Int)) ∧ WB b xs := by
  unfold WB; simp
theorem WB_append {b : Nat} {l m : List Int} : WB b (l ++ m) ↔ WB b l ∧ WB b m := by
  unfold WB
  constructor
  · intro h; exact ⟨fun x hx => h x (List.mem_append_left _ hx), fun x hx => h x (List.mem_append_right _ hx)⟩
  · rintro ⟨h1, h2⟩ x hx
    rcases List.mem_append.1 hx with h | h
    · exact h1 x h
    · exact h2 x h
theorem WB_take {b : Nat} {l : List Int} (h : WB b l) (i : Nat) : WB b (l.take i) := fun x hx => h x (List.mem_of_mem_take hx)
theorem WB_drop {b : Nat} {l : List Int} (h : WB b l) (i : Nat) : WB b (l.drop i) := fun x hx => h x (List.mem_of_mem_drop hx)
theorem WB_NB (b n : Nat) : WB b (NB b n) := by
  induction n using Nat.strongRecOn with
  | _ n ih =>
    rw [NB]
    split
    · exact WB_nil b
    · rename_i h
      rw [WB_cons]
      have : n % b < b := Nat.mod_lt _ (by omega)
      exact ⟨⟨by omega, by omega⟩, ih _ (Nat.div_lt_self (by omega) (by omega))⟩
theorem VB_NB {b : Nat} (hb : 2 ≤ b) (n : Nat) : VB b (NB b n) = n := by
  induction n using Nat.strongRecOn with
  | _ n ih =>
    rcases Nat.eq_zero_or_pos n with rfl | hn
    · rw [NB_zero]; rfl
    · rw [NB_pos hb hn]
      show ((n % b : Nat) : Int).toNat + b * VB b (NB b (n / b)) = n
      rw [ih _ (Nat.div_lt_self hn (by omega)), Int.toNat_natCast]
      exact Nat.mod_add_div n b
theorem VB_append (b : Nat) (l m : List Int) : VB b (l ++ m) = VB b l + b ^ l.length * VB b m := by
  induction l with
  | nil => simp [VB]
  | cons x xs ih =>
    simp only [List.cons_append, VB, List.length_cons, ih]
    grind
theorem VB_lt {b : Nat} (hb : 2 ≤ b) {l : List Int} (h : WB b l) : VB b l < b ^ l.length := by
  induction l with
  | nil => simp [VB]
  | cons x xs ih =>
    obtain ⟨⟨h0, h1⟩, h2⟩ := WB_cons.1 h
    have h3 := ih h2
    simp only [VB, List.length_cons]
    have h4 : x.toNat < b := by omega
    have h5 : b * (VB b xs + 1) ≤ b * b ^ xs.length := Nat.mul_le_mul_left b h3
    rw [Nat.pow_succ, Nat.mul_comm (b ^ xs.length) b]
    grind
/-- A list whose last digit is no nought is its number's. -/
theorem NB_canon {b : Nat} (hb : 2 ≤ b) (l : List Int) (h : WB b l) (hl : ∀ m x, l = m ++ [x] → x ≠ 0) : NB b (VB b l) = l := by
  induction l with
  | nil => simp [VB, NB_zero]
  | cons x xs ih =>
    obtain ⟨⟨h0, h1⟩, h2⟩ := WB_cons.1 h
    have h3 := ih h2 (fun m y e => hl (x :: m) y (by rw [e]; rfl))
    have hpos : 0 < VB b (x :: xs) := by
      rcases xs with _ | ⟨y, ys⟩
      · have := hl [] x rfl
        simp only [VB]
        omega
      · rcases Nat.eq_zero_or_pos (VB b (y :: ys)) with h4 | h4
        · rw [h4, NB_zero] at h3
          cases h3
        · have : 0 < b * VB b (y :: ys) := Nat.mul_pos (by omega) h4
          show 0 < x.toNat + b * VB b (y :: ys)
          omega
    rw [NB_pos hb hpos]
    have e1 : VB b (x :: xs) % b = x.toNat := by
      show (x.toNat + b * VB b xs) % b = x.toNat
      rw [Nat.add_mul_mod_self_left]
      exact Nat.mod_eq_of_lt (by omega)
    have e2 : VB b (x :: xs) / b = VB b xs := by
      show (x.toNat + b * VB b xs) / b = VB b xs
      rw [Nat.add_mul_div_left _ _ (by omega), Nat.div_eq_of_lt (by omega), Nat.zero_add]
    rw [e1, e2, h3, Int.toNat_of_nonneg h0]
theorem NB_last {b : Nat} (hb : 2 ≤ b) (n : Nat) (m : List Int) (x : Int) (h : NB b n = m ++ [x]) : x ≠ 0 := by
  induction n using Nat.strongRecOn generalizing m with
  | _ n ih =>
    rcases Nat.eq_zero_or_pos n with rfl | hn
    · rw [NB_zero] at h
      simp at h
    · rw [NB_pos hb hn] at h
      rcases m with _ | ⟨y, ys⟩
      · simp only [List.nil_append, List.cons.injEq] at h
        obtain ⟨h1, h2⟩ := h
        have h3 := VB_NB hb (n / b)
        rw [h2] at h3
        have h4 : n / b = 0 := h3.symm
        have h5 : n % b = n := Nat.mod_eq_of_lt (by
          rcases Nat.lt_or_ge n b with h | h
          · exact h
          · have := Nat.div_pos h (by omega); omega)
        rw [h5] at h1
        omega
      · simp only [List.cons_append, List.cons.injEq] at h
        exact ih _ (Nat.div_lt_self hn (by omega)) ys h.2
theorem NB_length_le {b : Nat} (hb : 2 ≤ b) (n j : Nat) (h : n < b ^ j) : (NB b n).length ≤ j := by
  induction j generalizing n with
  | zero =>
    have : n = 0 := by simpa using h
    subst this
    rw [NB_zero]
    simp
  | succ j ih =>
    rcases Nat.eq_zero_or_pos n with rfl | hn
    · rw [NB_zero]; simp
    · rw [NB_pos hb hn, List.length_cons]
      have : n / b < b ^ j := by
        rw [Nat.div_lt_iff_lt_mul (by omega)]
        rwa [Nat.pow_succ] at h
      have := ih _ this
      omega
theorem NB_lt_length {b : Nat} (hb : 2 ≤ b) (n : Nat) : n < b ^ (NB b n).length := by
  have := VB_lt hb (WB_NB b n)
  rwa [VB_NB hb] at this
theorem NB_length_gt {b : Nat} (hb : 2 ≤ b) (n j : Nat) (h : b ^ j ≤ n) : j < (NB b n).length := by
  have h1 := NB_lt_length hb n
  rcases Nat.lt_or_ge j (NB b n).length with h2 | h2
  · exact h2
  · have := Nat.pow_le_pow_right (show 0 < b by omega) h2
    omega
theorem NB_eq_nil {b : Nat} (hb : 2 ≤ b) (n : Nat) : NB b n = [] ↔ n = 0 := by
  constructor
  · intro h
    have := VB_NB hb n
    rw [h] at this
    exact this.symm
  · rintro rfl
    exact NB_zero b
theorem NB_len0 {b : Nat} (hb : 2 ≤ b) (n : Nat) : (NB b n).length = 0 ↔ n = 0 := by rw [List.length_eq_zero_iff, NB_eq_nil hb]
theorem NBV_len {b : Nat} (hb : 2 ≤ b) {l : List Int} (h : WB b l) : (NB b (VB b l)).length ≤ l.length := NB_length_le hb _ _ (VB_lt hb h)
theorem nmod32 (n : Nat) : ((n : Nat) : Int) % 4294967296 = ((n % 4294967296 : Nat) : Int) := by omega
theorem ndiv32 (n : Nat) : ((n : Nat) : Int) / 4294967296 = ((n / 4294967296 : Nat) : Int) := by omega
theorem nmod16 (n : Nat) : Int.tmod ((n : Nat) : Int) 65536 = ((n % 65536 : Nat) : Int) := by rw [Int.tmod_eq_emod_of_nonneg (by omega)]; omega
theorem ndiv16 (n : Nat) : Int.tdiv ((n : Nat) : Int) 65536 = ((n / 65536 : Nat) : Int) := by rw [Int.tdiv_eq_ediv_of_nonneg (by omega)]; omega
/-! reading -/
theorem rd_nat (l : List Int) (i : Nat) : rd l (i : Int) = l.getD i 0 := by simp [rd]
theorem rd_get (l : List Int) (i : Nat) (h : i < l.length) : rd l (i : Int) = l[i] := by
  rw [rd_nat, List.getD_eq_getElem?_getD, List.getElem?_eq_getElem h]; rfl
theorem WB_rd {b : Nat} {l : List Int} (h : WB b l) (i : Nat) (hi : i < l.length) : 0 ≤ rd l (i : Int) ∧ rd l (i : Int) < (b : Int) := by
  rw [rd_get l i hi]; exact h _ (List.getElem_mem hi)
theorem take_rd (l : List Int) (i : Nat) (h : i < l.length) : l.take (i + 1) = l.take i ++ [rd l (i : Int)] := by
  rw [List.take_succ_eq_append_getElem h, rd_get l i h]
theorem VB_take_succ (b : Nat) (l : List Int) (i : Nat) (h : i < l.length) : VB b (l.take (i + 1)) = VB b (l.take i) + b ^ i * (rd l (i : Int)).toNat := by
  rw [take_rd l i h, VB_append]
  have : (l.take i).length = i := by rw [List.length_take]; omega
  rw [this]
  simp [VB]
theorem VB_snoc (b : Nat) (l : List Int) (x : Int) : VB b (l ++ [x]) = VB b l + b ^ l.length * x.toNat := by
  rw [VB_append]; simp [VB]
theorem VB_split (b : Nat) (l : List Int) (i : Nat) (hi : i ≤ l.length) : VB b l = VB b (l.take i) + b ^ i * VB b (l.drop i) := by
  conv => lhs; rw [← List.take_append_drop i l]
  rw [VB_append]
  have : (l.take i).length = i := by rw [List.length_take]; omega
  rw [this]
theorem VB_drop_rd (b : Nat) (l : List Int) (i : Nat) (h : i < l.length) : VB b (l.drop i) = (rd l (i : Int)).toNat + b * VB b (l.drop (i + 1)) := by
  rw [List.drop_eq_getElem_cons h, rd_get l i h]
  rfl
/-- The length of digits tells which number is greater, if they differ. -/
theorem NB_length_mono {b : Nat} (hb : 2 ≤ b) {m n : Nat} (h : m ≤ n) : (NB b m).length ≤ (NB b n).length :=
  NB_length_le hb m _ (Nat.lt_of_le_of_lt h (NB_lt_length hb n))
theorem take_all_rd (b : Nat) (l : List Int) (i : Nat) : VB b (l.take (i + 1)) = VB b (l.take i) + b ^ i * (if i < l.length then (rd l (i : Int)).toNat else 0) := by
  split
  · rename_i h; exact VB_take_succ b l i h
  · rename_i h
    rw [List.take_of_length_le (by omega), List.take_of_length_le (by omega)]
    simp
theorem VB_set (b : Nat) : ∀ (l : List Int) (n : Nat) (v : Int), n < l.length → VB b (l.set n v) + b ^ n * (rd l (n : Int)).toNat = VB b l + b ^ n * v.toNat := by
  intro l
  induction l with
  | nil => intro n v h; simp at h
  | cons x xs ih =>
    intro n v h
    cases n with
    | zero => simp only [List.set_cons_zero, VB, rd_nat]; simp; omega
    | succ n =>
      have h1 := ih n v (by simpa using h)
      have h2 : rd (x :: xs) ((n + 1 : Nat) : Int) = rd xs (n : Int) := by rw [rd_nat, rd_nat]; rfl
      rw [h2]
      simp only [List.set_cons_succ, VB]
      have h3 := congrArg (b * ·) h1
      simp only [Nat.mul_add] at h3
      rw [Nat.pow_succ]
      have e1 : b ^ n * b * (rd xs (n : Int)).toNat = b * (b ^ n * (rd xs (n : Int)).toNat) := by rw [Nat.mul_comm (b ^ n) b, Nat.mul_assoc]
      have e2 : b ^ n * b * v.toNat = b * (b ^ n * v.toNat) := by rw [Nat.mul_comm (b ^ n) b, Nat.mul_assoc]
      rw [e1, e2]
      generalize b * (b ^ n * (rd xs (n : Int)).toNat) = p at *
      generalize b * (b ^ n * v.toNat) = q at *
      omega
theorem WB_set {b : Nat} {l : List Int} (h : WB b l) (n : Nat) (v : Int) (h0 : 0 ≤ v) (h1 : v < (b : Int)) : WB b (l.set n v) := by
  intro x hx
  rcases List.mem_or_eq_of_mem_set hx with h2 | rfl
  · exact h x h2
  · exact ⟨h0, h1⟩
theorem rd_set (l : List Int) (n m : Nat) (v : Int) (h : n < l.length) : rd (l.set n v) (m : Int) = if m = n then v else rd l (m : Int) := by
  rw [rd_nat, rd_nat, List.getD_eq_getElem?_getD, List.getD_eq_getElem?_getD, List.getElem?_set]
  by_cases e : n = m
  · subst e; simp [h]
  · rw [if_neg e, if_neg (fun h => e h.symm)]
theorem WB_rep (b n : Nat) (hb : 0 < b) : WB b (List.replicate n 0) := by
  intro x hx
  have := List.eq_of_mem_replicate hx
  omega
theorem VB_rep (b n : Nat) : VB b (List.replicate n 0) = 0 := by
  induction n with
  | zero => rfl
  | succ n ih => simp [List.replicate_succ, VB, ih]
theorem rd_rep (n m : Nat) : rd (List.replicate n 0) (m : Int) = 0 := by
  rw [rd_nat, List.getD_eq_getElem?_getD, List.getElem?_replicate]
  split <;> rfl
/-- One step of a sum: the digit, and what is carried. -/
theorem carry_step (b i o s : Nat) : o + b ^ i * (s % b) + b ^ (i + 1) * (s / b) = o + b ^ i * s := by
  have h := Nat.mod_add_div s b
  rw [Nat.pow_succ, Nat.mul_assoc, Nat.add_assoc, ← Nat.mul_add, h]
theorem mul_step (b i j c z x y vo vo' vb vb' S : Nat) (h1 : vo' + b ^ (i + j) * z = vo + b ^ (i + j) * ((c + (z + x * y)) % b)) (h2 : vo + b ^ (i + j) * c = S + b ^ i * (x * vb)) (h3 : vb' = vb + b ^ j * y) :
    vo' + b ^ (i + (j + 1)) * ((c + (z + x * y)) / b) = S + b ^ i * (x * vb') := by
  subst h3
  have h4 := carry_step b (i + j) 0 (c + (z + x * y))
  have h5 : b ^ (i + j) * (c + (z + x * y)) = b ^ (i + j) * c + b ^ (i + j) * z + b ^ i * (x * (b ^ j * y)) := by
    rw [Nat.mul_add, Nat.mul_add, Nat.pow_add]
    grind
  rw [Nat.mul_add x, Nat.mul_add (b ^ i), ← Nat.add_assoc i j 1]
  simp only [Nat.zero_add] at h4
  generalize b ^ (i + j) * ((c + (z + x * y)) % b) = g1 at *
  generalize b ^ (i + j + 1) * ((c + (z + x * y)) / b) = g2 at *
  generalize b ^ (i + j) * (c + (z + x * y)) = g3 at *
  generalize b ^ (i + j) * z = g4 at *
  generalize b ^ (i + j) * c = g5 at *
  generalize b ^ i * (x * (b ^ j * y)) = g6 at *
  generalize b ^ i * (x * vb) = g7 at *
  omega
theorem set_zero_step (b n c vo vo' T : Nat) (h1 : vo' + b ^ n * 0 = vo + b ^ n * c) (h2 : vo + b ^ n * c = T) : vo' = T := by
  rw [Nat.mul_zero, Nat.add_zero] at h1
  rw [h1, h2]
/-- Two words as one: 'r<<32 | x'. -/
theorem or32 (r x : Nat) (hr : r < 4294967296) (hx : x < 4294967296) : Go.bits .or .u64 (IntKind.u64.wrap ((r : Int) * 4294967296)) (IntKind.u64.wrap (x : Int)) = ((r * 4294967296 + x : Nat) : Int) := by
  have h1 : IntKind.u64.wrap ((r : Int) * 4294967296) = (r : Int) * 4294967296 := u64in _ (by omega) (by omega)
  have h2 : IntKind.u64.wrap (x : Int) = (x : Int) := u64in _ (by omega) (by omega)
  rw [h1, h2]
  have h3 := bits_join .u64 64 (by decide) (fun n h0 h1 => u64in n h0 (by omega)) 32 ((r : Int) * 4294967296) (x : Int) (by omega) (by omega) (by omega) (by omega) (by omega) (by omega)
  rw [h3]
  omega
theorem or_comm_nat (a b : Nat) (ha : a < 18446744073709551616) (hb : b < 18446744073709551616) : Go.bits .or .u64 (a : Int) (b : Int) = Go.bits .or .u64 (b : Int) (a : Int) := by
  rw [(bits_nat .u64 64 (by decide) (fun n h0 h1 => u64in n h0 (by omega)) a b (by omega) (by omega)).2, (bits_nat .u64 64 (by decide) (fun n h0 h1 => u64in n h0 (by omega)) b a (by omega) (by omega)).2, Nat.or_comm]
/-- A number's bits and lower ones: 'c | x<<by', c below 2^by. -/
theorem orlow (c y s : Nat) (hs : s ≤ 32) (hc : c < 2 ^ s) (hy : y % 2 ^ s = 0) (hy2 : y < 18446744073709551616) : Go.bits .or .u64 (c : Int) (y : Int) = ((c + y : Nat) : Int) := by
  have hp : 2 ^ s ≤ 2 ^ 32 := Nat.pow_le_pow_right (by omega) hs
  rw [or_comm_nat c y (by omega) hy2]
  have h3 := bits_join .u64 64 (by decide) (fun n h0 h1 => u64in n h0 (by omega)) s (y : Int) (c : Int) (by omega) (by exact_mod_cast hy) (by omega) (by omega) (by exact_mod_cast hc) (by omega)
  rw [h3]
  omega
theorem tdivN (x y : Nat) : Int.tdiv (x : Int) (y : Int) = ((x / y : Nat) : Int) := by rw [Int.tdiv_eq_ediv_of_nonneg (by omega)]; rfl
theorem tmodN (x y : Nat) : Int.tmod (x : Int) (y : Int) = ((x % y : Nat) : Int) := by rw [Int.tmod_eq_emod_of_nonneg (by omega)]; rfl
theorem set_mid (l : List Int) (x v : Int) (q : List Int) : (l ++ x :: q).set l.length v = l ++ v :: q := by
  rw [List.set_append_right _ _ (Nat.le_refl _), Nat.sub_self]; rfl
theorem rd_mid (l : List Int) (x : Int) (q : List Int) : rd (l ++ x :: q) (l.length : Int) = x := by
  rw [rd_nat, List.getD_eq_getElem?_getD, List.getElem?_append_right (Nat.le_refl _), Nat.sub_self]; rfl
def cmpN (m n : Nat) : Int := if m < n then -1 else if n < m then 1 else 0
end Go.Proofs.YtofklpmlgfbmlaaGreat.Num
/- Strings as lists of bytes; decimal. Plain law, no program. -/
namespace Go.Proofs.YtofklpmlgfbmlaaGreat.Num
open Go.RowKit Go.Proofs.YtofklpmlgfbmlaaGreat.Wd
set_option linter.unusedVariables false
set_option linter.unusedSimpArgs false

theorem toList_loop (s : ByteArray) : ∀ (d i : Nat) (r : List UInt8), s.size - i = d → ByteArray.toList.loop s i r = r.reverse ++ s.data.toList.drop i := by
  intro d
  induction d with
  | zero =>
    intro i r h
    rw [ByteArray.toList.loop, if_neg (by omega), List.drop_of_length_le (by rw [data_length]; omega), List.append_nil]
  | succ d ih =>
    intro i r h
    have hi : i < s.data.toList.length := by rw [data_length]; omega
    rw [ByteArray.toList.loop, if_pos (by omega), ih _ _ (by omega), List.drop_eq_getElem_cons hi, List.reverse_cons, List.append_assoc, List.singleton_append]
    congr 2
    have h2 : i < s.data.size := by rw [← Array.length_toList]; exact hi
    show s.get! i = _
    cases s with
    | mk a => simp only [ByteArray.get!]; simp at h2; simp [h2]
theorem toList_data (s : ByteArray) : s.toList = s.data.toList := by
  unfold ByteArray.toList
  rw [toList_loop s _ 0 [] rfl]
  simp
theorem bytesOf_inj {s t : ByteArray} (h : bytesOf s = bytesOf t) : s = t := by
  unfold bytesOf at h
  have h2 : s.data.toList = t.data.toList := by
    refine (List.map_inj_right ?_).1 h
    intro a b hab
    exact UInt8.toNat_inj.1 (Int.ofNat_inj.1 hab)
  cases s; cases t
  simp at h2
  simp [h2]
theorem bytesOf_str (xs : List Int) (h : ∀ x ∈ xs, 0 ≤ x ∧ x ≤ 255) : bytesOf (strOfNums xs) = xs := by
  unfold bytesOf strOfNums
  simp only [List.map_map]
  conv => rhs; rw [← List.map_id xs]
  refine List.map_congr_left (fun x hx => ?_)
  have := h x hx
  simp
  omega
theorem bytesOf_append (s t : ByteArray) : bytesOf (s ++ t) = bytesOf s ++ bytesOf t := by
  simp [bytesOf]
theorem str_bytesOf (s : ByteArray) : strOfNums (bytesOf s) = s := by
  apply bytesOf_inj
  rw [bytesOf_str]
  intro x hx
  simp only [bytesOf, List.mem_map] at hx
  obtain ⟨b, _, rfl⟩ := hx
  have := b.toNat_lt
  omega
/-- The digits as characters. -/
def Ch (l : List Int) : List Int := l.map (48 + ·)
theorem Ch_length (l : List Int) : (Ch l).length = l.length := by simp [Ch]
def decS (n : Nat) : List Int := if n = 0 then [48] else (Ch (NB 10 n)).reverse
def showS (n : Nat) : ByteArray := strOfNums (decS n)
theorem Ch_range {l : List Int} (h : WB 10 l) : ∀ x ∈ Ch l, 48 ≤ x ∧ x ≤ 57 := by
  intro x hx
  simp only [Ch, List.mem_map] at hx
  obtain ⟨d, hd, rfl⟩ := hx
  have := h d hd
  omega
theorem decS_range (n : Nat) : ∀ x ∈ decS n, 48 ≤ x ∧ x ≤ 57 := by
  intro x hx
  unfold decS at hx
  split at hx
  · simp at hx; omega
  · exact Ch_range (WB_NB 10 n) x (List.mem_reverse.1 hx)
theorem bytesOf_showS (n : Nat) : bytesOf (showS n) = decS n := bytesOf_str _ (fun x hx => by have := decS_range n x hx; omega)
theorem decS_len (n : Nat) (j : Nat) (hj : 0 < j) (h : n < 10 ^ j) : (decS n).length ≤ j := by
  unfold decS
  split
  · simp; omega
  · rw [List.length_reverse, Ch_length]; exact NB_length_le (by omega) _ _ h
end Go.Proofs.YtofklpmlgfbmlaaGreat.Num
/- What the printed functions of nat come to, told of numbers: trim, cmp, Of, Trim, add, sub. -/
namespace Go.Proofs.YtofklpmlgfbmlaaGreat.ZRatP
open Go.RowKit Go.Proofs.YtofklpmlgfbmlaaGreat.Wd Go.Proofs.YtofklpmlgfbmlaaGreat.Num Go.Proofs.YtofklpmlgfbmlaaGreat.ZRat
set_option linter.unusedVariables false
set_option linter.unusedSimpArgs false

theorem trim_l0 : ∀ (n : Nat) (l : List Int), l.length = n → WB 4294967296 l → n < 4611686018427387904 → Ev (fun k => nat_trim.l0 k l) (NB 4294967296 (VB 4294967296 l)) := by
  intro n
  induction n with
  | zero =>
    intro l hl hW hb
    obtain rfl := List.length_eq_zero_iff.1 hl
    refine Ev.step (f := fun _ => some []) (fun k => ?_) ?_
    · show nat_trim.l0 (k + 1) [] = _
      simp [nat_trim.l0]
    · simp only [VB, NB_zero]
      exact Ev.now _
  | succ n ih =>
    intro l hl hW hb
    rcases List.eq_nil_or_concat l with rfl | ⟨m, x, rfl⟩
    · simp at hl
    rw [List.concat_eq_append] at *
    have hm : m.length = n := by simpa using hl
    have hw : wrap64 (((m ++ [x]).length : Int) - 1) = (n : Int) := by rw [hl, w64in _ (by omega) (by omega)]; omega
    have hr : rd (m ++ [x]) (n : Int) = x := by
      rw [rd_nat, ← hm]
      simp
    have ht : (m ++ [x]).take n = m := by rw [← hm]; simp
    obtain ⟨hWm, hWx⟩ := WB_append.1 hW
    by_cases hx : x = 0
    · refine Ev.step (f := fun k => nat_trim.l0 k m) (fun k => ?_) ?_
      · show nat_trim.l0 (k + 1) (m ++ [x]) = _
        simp only [nat_trim.l0]
        rw [hw, hr, if_pos (by omega), if_pos (by omega), if_pos (by omega), if_pos hx, if_pos (by omega), Int.toNat_natCast, ht]
      · have e : VB 4294967296 (m ++ [x]) = VB 4294967296 m := by rw [VB_snoc, hx]; simp
        rw [e]
        exact ih m hm hWm (by omega)
    · refine Ev.step (f := fun _ => some (m ++ [x])) (fun k => ?_) ?_
      · show nat_trim.l0 (k + 1) (m ++ [x]) = _
        simp only [nat_trim.l0]
        rw [hw, hr, if_pos (by omega), if_pos (by omega), if_pos (by omega), if_neg hx]
      · rw [NB_canon (by omega) _ hW (fun m' y e => by
          have := List.append_inj' e rfl
          have h2 : x = y := by simpa using this.2
          rw [← h2]; exact hx)]
        exact Ev.now _
theorem trim_f (l : List Int) (hW : WB 4294967296 l) (hl : l.length < 4611686018427387904) : Ev (fun k => nat_trim.f k l) (NB 4294967296 (VB 4294967296 l)) :=
  trim_l0 _ l rfl hW hl
theorem trim_own_f (l : List Int) (hW : WB 4294967296 l) (hl : l.length < 4611686018427387904) : Ev (fun k => nat_trim.f k l) (NB 4294967296 (VB 4294967296 l)) := trim_f l hW hl
theorem clone_f (l : List Int) (hl : l.length < 35184372088832) : api_Nat_uint32.f l = some l := by unfold api_Nat_uint32.f; rw [if_pos hl]

/-- cmp's loop: the digits from i - 1 down. -/
theorem cmp_l0 (a b : List Int) (hl : a.length = b.length) (ha : WB 4294967296 a) (hb : WB 4294967296 b) (hn : a.length < 4611686018427387904) : ∀ (i : Nat), i ≤ a.length →
    VB 4294967296 (a.drop i) = VB 4294967296 (b.drop i) →
    Ev (fun k => nat_cmp.l0 k a b ((i : Int) - 1)) (if VB 4294967296 a < VB 4294967296 b then -1 else if VB 4294967296 b < VB 4294967296 a then 1 else 0) := by
  intro i
  induction i with
  | zero =>
    intro hi he
    refine Ev.step (f := fun _ => some 0) (fun k => ?_) ?_
    · show nat_cmp.l0 (k + 1) a b _ = _
      simp only [nat_cmp.l0]
      rw [if_neg (by omega)]
    · simp only [List.drop_zero] at he
      rw [he, if_neg (by omega), if_neg (by omega)]
      exact Ev.now _
  | succ i ih =>
    intro hi he
    have ea := VB_split 4294967296 a i (by omega)
    have eb := VB_split 4294967296 b i (by omega)
    have da := VB_drop_rd 4294967296 a i (by omega)
    have db := VB_drop_rd 4294967296 b i (by omega)
    have ra := WB_rd ha i (by omega)
    have rb := WB_rd hb i (by omega)
    have la := VB_lt (by omega) (WB_take ha i)
    have lb := VB_lt (by omega) (WB_take hb i)
    have lta : (a.take i).length = i := by rw [List.length_take]; omega
    have ltb : (b.take i).length = i := by rw [List.length_take]; omega
    rw [lta] at la
    rw [ltb] at lb
    have e1 : ((i + 1 : Nat) : Int) - 1 = (i : Int) := by omega
    have e2 : wrap64 ((i : Int) - 1) = (i : Int) - 1 := w64in _ (by omega) (by omega)
    rcases Int.lt_trichotomy (rd a (i : Int)) (rd b (i : Int)) with h | h | h
    · refine Ev.step (f := fun _ => some (-1)) (fun k => ?_) ?_
      · show nat_cmp.l0 (k + 1) a b _ = _
        simp only [nat_cmp.l0]
        rw [e1, if_pos (by omega), if_pos (by omega), if_pos (by omega), if_pos (by omega), if_pos h]
      · have h1 : VB 4294967296 (a.drop i) + 1 ≤ VB 4294967296 (b.drop i) := by rw [da, db, he]; omega
        have h2 := Nat.mul_le_mul_left (4294967296 ^ i) h1
        rw [if_pos (by rw [ea, eb]; rw [Nat.mul_add] at h2; omega)]
        exact Ev.now _
    · refine Ev.step (f := fun k => nat_cmp.l0 k a b ((i : Int) - 1)) (fun k => ?_) ?_
      · show nat_cmp.l0 (k + 1) a b _ = _
        simp only [nat_cmp.l0]
        rw [e1, if_pos (by omega), if_pos (by omega), if_pos (by omega), if_pos (by omega), if_neg (by omega), if_neg (by omega), e2]
      · exact ih (by omega) (by rw [da, db, he, h])
    · refine Ev.step (f := fun _ => some 1) (fun k => ?_) ?_
      · show nat_cmp.l0 (k + 1) a b _ = _
        simp only [nat_cmp.l0]
        rw [e1, if_pos (by omega), if_pos (by omega), if_pos (by omega), if_pos (by omega), if_neg (by omega), if_pos h]
      · have h1 : VB 4294967296 (b.drop i) + 1 ≤ VB 4294967296 (a.drop i) := by rw [da, db, he]; omega
        have h2 := Nat.mul_le_mul_left (4294967296 ^ i) h1
        rw [Nat.mul_add] at h2
        rw [if_neg (by rw [ea, eb]; omega), if_pos (by rw [ea, eb]; omega)]
        exact Ev.now _
theorem cmp_f (a b : List Int) (ha : WB 4294967296 a) (hb : WB 4294967296 b) (la : a.length < 35184372088832) (lb : b.length < 35184372088832) :
    Ev (fun k => nat_cmp.f k a b) (cmpN (VB 4294967296 a) (VB 4294967296 b)) := by
  unfold nat_cmp.f
  refine Ev.bind (trim_f a ha (by omega)) ?_
  refine Ev.bind (trim_f b hb (by omega)) ?_
  have hla := NBV_len (by omega) ha
  generalize VB 4294967296 a = m at *
  generalize hn : VB 4294967296 b = n at *
  unfold cmpN
  by_cases h : (NB 4294967296 m).length = (NB 4294967296 n).length
  · have hl : (NB 4294967296 m).length < 4611686018427387904 := by omega
    have := cmp_l0 _ _ h (WB_NB _ m) (WB_NB _ n) hl _ (Nat.le_refl _) (by rw [List.drop_length, h, List.drop_length])
    rw [VB_NB (by omega), VB_NB (by omega)] at this
    refine Ev.congr (fun k => ?_) this
    rw [if_pos (by omega), w64in _ (by omega) (by omega)]
  · rcases Nat.lt_or_ge m n with h1 | h1
    · have h2 := NB_length_mono (b := 4294967296) (by omega) (Nat.le_of_lt h1)
      rw [if_pos h1]
      refine Ev.congr (fun k => ?_) (Ev.now _)
      rw [if_neg (by omega), if_pos (by omega)]
    · have h2 := NB_length_mono (b := 4294967296) (by omega) h1
      have h3 : n < m := by
        rcases Nat.lt_or_ge n m with h4 | h4
        · exact h4
        · exact absurd (by rw [Nat.le_antisymm h4 h1]) h
      rw [if_neg (by omega), if_pos h3]
      refine Ev.congr (fun k => ?_) (Ev.now _)
      rw [if_neg (by omega), if_neg (by omega)]
end Go.Proofs.YtofklpmlgfbmlaaGreat.ZRatP
/- What the printed functions of nat come to, told of numbers: a small number. -/
namespace Go.Proofs.YtofklpmlgfbmlaaGreat.ZRatP
open Go.RowKit Go.Proofs.YtofklpmlgfbmlaaGreat.Wd Go.Proofs.YtofklpmlgfbmlaaGreat.Num Go.Proofs.YtofklpmlgfbmlaaGreat.ZRat
set_option linter.unusedVariables false
set_option linter.unusedSimpArgs false

theorem Of_f (n : Int) (h0 : 0 ≤ n) (h1 : n < 18446744073709551616) : Ev (fun k => nat_Of.f k n) (NB 4294967296 n.toNat) := by
  unfold nat_Of.f
  have hW : WB 4294967296 [n % 4294967296, n / 4294967296 % 4294967296] := by
    intro x hx
    simp only [List.mem_cons, List.not_mem_nil, or_false] at hx
    omega
  have hv : VB 4294967296 [n % 4294967296, n / 4294967296 % 4294967296] = n.toNat := by
    simp only [VB]
    omega
  have h2 := NBV_len (by omega) hW
  have h3 := trim_own_f _ hW (by simp)
  rw [hv] at h2 h3
  simp only [List.length_cons, List.length_nil] at h2
  refine Ev.bind h3 ?_
  refine Ev.congr (fun k => ?_) (Ev.now _)
  rw [clone_f _ (by omega)]
  rfl
end Go.Proofs.YtofklpmlgfbmlaaGreat.ZRatP
/- What the printed functions of nat come to, told of numbers: trim, as told outside. -/
namespace Go.Proofs.YtofklpmlgfbmlaaGreat.ZRatP
open Go.RowKit Go.Proofs.YtofklpmlgfbmlaaGreat.Wd Go.Proofs.YtofklpmlgfbmlaaGreat.Num Go.Proofs.YtofklpmlgfbmlaaGreat.ZRat
set_option linter.unusedVariables false
set_option linter.unusedSimpArgs false

theorem Trim_f (a : List Int) (ha : WB 4294967296 a) (la : a.length < 35184372088832) : Ev (fun k => nat_Trim.f k a) (NB 4294967296 (VB 4294967296 a)) := by
  unfold nat_Trim.f
  have h2 := NBV_len (by omega) ha
  refine Ev.bind (trim_f a ha (by omega)) ?_
  refine Ev.congr (fun k => ?_) (Ev.now _)
  rw [clone_f _ (by omega)]
  rfl

end Go.Proofs.YtofklpmlgfbmlaaGreat.ZRatP
/- What the printed functions of nat come to, told of numbers: Mul. -/
namespace Go.Proofs.YtofklpmlgfbmlaaGreat.ZRatP
open Go.RowKit Go.Proofs.YtofklpmlgfbmlaaGreat.Wd Go.Proofs.YtofklpmlgfbmlaaGreat.Num Go.Proofs.YtofklpmlgfbmlaaGreat.ZRat
set_option linter.unusedVariables false
set_option linter.unusedSimpArgs false

theorem mul_bound (x y : Nat) (hx : x < 4294967296) (hy : y < 4294967296) : x * y ≤ 18446744065119617025 := Nat.mul_le_mul (show x ≤ 4294967295 by omega) (show y ≤ 4294967295 by omega)
/-- The inner loop: one digit x of a, times b, put to out from place i on. -/
theorem Mul_l1 (a b : List Int) (hb : WB 4294967296 b) (i x : Nat) (hx : x < 4294967296) (n : Nat) (hn : n < 35184372088831) (hi : i + b.length < n) (S : Nat) (R : List Int) :
    (∀ out', out'.length = n → WB 4294967296 out' → (∀ m, i + 1 + b.length ≤ m → rd out' (m : Int) = 0) → Aside0 (VB 4294967296 out' = S + 4294967296 ^ i * (x * VB 4294967296 b)) →
      Ev (fun k => nat_Mul.l0 k b out' a (a.length : Int) (wrap64 ((i : Int) + 1))) R) →
    ∀ (d j : Nat) (out : List Int) (c : Nat), b.length - j = d → j ≤ b.length → out.length = n → WB 4294967296 out → c < 4294967296 → (∀ m, i + b.length ≤ m → rd out (m : Int) = 0) →
      Aside0 (VB 4294967296 out + 4294967296 ^ (i + j) * c = S + 4294967296 ^ i * (x * VB 4294967296 (b.take j))) →
    Ev (fun k => nat_Mul.l1 k b out (i : Int) (x : Int) (c : Int) a (a.length : Int) (i : Int) b (b.length : Int) (j : Int)) R := by
  intro hcont d
  induction d with
  | zero =>
    intro j out c hd hj ho hW hc hz he
    have hj' : j = b.length := by omega
    subst hj'
    have E1 := Aside0.mk (wadd i b.length (by omega))
    refine Ev.step (f := fun k => nat_Mul.l0 k b (out.set (i + b.length) (c : Int)) a (a.length : Int) (wrap64 ((i : Int) + 1))) (fun k => ?_) ?_
    · show nat_Mul.l1 (k + 1) b out (i : Int) (x : Int) (c : Int) a (a.length : Int) (i : Int) b (b.length : Int) (b.length : Int) = _
      simp only [nat_Mul.l1]
      rw [if_neg (by omega), E1.out, if_pos (by omega), if_pos (by omega), Int.toNat_natCast, show (c : Int) % 4294967296 = (c : Int) from by omega]
    · refine hcont _ (by rw [List.length_set]; exact ho) (WB_set hW _ _ (by omega) (by omega)) (fun m hm => ?_) ⟨?_⟩
      · rw [rd_set _ _ _ _ (by omega), if_neg (by omega)]
        exact hz m (by omega)
      · have h1 := VB_set 4294967296 out (i + b.length) (c : Int) (by omega)
        have h2 := he.out
        rw [hz (i + b.length) (Nat.le_refl _)] at h1
        rw [List.take_of_length_le (Nat.le_refl _)] at h2
        exact set_zero_step _ _ _ _ _ _ h1 h2
  | succ d ih =>
    intro j out c hd hj ho hW hc hz he
    have rb := WB_rd hb j (by omega)
    have ro := WB_rd hW (i + j) (by omega)
    obtain ⟨y, hy⟩ := Int.eq_ofNat_of_zero_le rb.1
    obtain ⟨z, hzz⟩ := Int.eq_ofNat_of_zero_le ro.1
    rw [hy] at rb
    rw [hzz] at ro
    have hp := mul_bound x y hx (by omega)
    have E1 := Aside0.mk (wadd i j (by omega))
    have E2 := Aside0.mk (wsucc j (by omega))
    have es : IntKind.u64.wrap ((c : Int) + IntKind.u64.wrap (IntKind.u64.wrap (z : Int) + IntKind.u64.wrap (IntKind.u64.wrap (x : Int) * IntKind.u64.wrap (y : Int)))) = ((c + (z + x * y) : Nat) : Int) := by
      rw [u64in (x : Int) (by omega) (by omega), u64in (y : Int) (by omega) (by omega), ← Int.natCast_mul]
      generalize x * y = p at *
      simp only [u64w]
      omega
    refine Ev.step (f := fun k => nat_Mul.l1 k b (out.set (i + j) (((c + (z + x * y)) % 4294967296 : Nat) : Int)) (i : Int) (x : Int) (((c + (z + x * y)) / 4294967296 : Nat) : Int) a (a.length : Int) (i : Int) b (b.length : Int) ((j + 1 : Nat) : Int)) (fun k => ?_) ?_
    · show nat_Mul.l1 (k + 1) b out (i : Int) (x : Int) (c : Int) a (a.length : Int) (i : Int) b (b.length : Int) (j : Int) = _
      simp only [nat_Mul.l1]
      rw [if_pos (by omega), if_pos (by omega), if_pos (by omega), E1.out, if_pos (by omega), if_pos (by omega), hy, hzz, es, E2.out, nmod32, ndiv32, Int.toNat_natCast]
    · have hq : (c + (z + x * y)) / 4294967296 < 4294967296 := by
        generalize x * y = p at *
        omega
      refine ih (j + 1) _ _ (by omega) (by omega) (by rw [List.length_set]; exact ho) (WB_set hW _ _ (by omega) (by omega)) hq (fun m hm => ?_) ⟨?_⟩
      · rw [rd_set _ _ _ _ (by omega), if_neg (by omega)]
        exact hz m hm
      · have h1 := VB_set 4294967296 out (i + j) (((c + (z + x * y)) % 4294967296 : Nat) : Int) (by omega)
        have h2 := he.out
        have h3 := VB_take_succ 4294967296 b j (by omega)
        rw [hzz] at h1
        rw [hy] at h3
        simp only [Int.toNat_natCast] at h1 h3
        exact mul_step _ i j c z x y _ _ _ _ S h1 h2 h3
theorem Mul_l0 (a b : List Int) (ha : WB 4294967296 a) (hb : WB 4294967296 b) (n : Nat) (hn : n < 35184372088831) (hl : n = a.length + b.length) : ∀ (d i : Nat) (out : List Int),
    a.length - i = d → i ≤ a.length → out.length = n → WB 4294967296 out → (∀ m, i + b.length ≤ m → rd out (m : Int) = 0) → Aside0 (VB 4294967296 out = VB 4294967296 (a.take i) * VB 4294967296 b) →
    Ev (fun k => nat_Mul.l0 k b out a (a.length : Int) (i : Int)) (NB 4294967296 (VB 4294967296 a * VB 4294967296 b)) := by
  intro d
  induction d with
  | zero =>
    intro i out hd hi ho hW hz he
    have hi' : i = a.length := by omega
    subst hi'
    have h3 := trim_own_f _ hW (by omega)
    rw [he.out, List.take_of_length_le (Nat.le_refl _)] at h3
    refine Ev.step (f := fun k => (nat_trim.f k out).bind fun t => some t) (fun k => ?_) (Ev.bind (f := fun _ t => some t) h3 (Ev.now _))
    show nat_Mul.l0 (k + 1) b out a (a.length : Int) (a.length : Int) = _
    simp only [nat_Mul.l0]
    rw [if_neg (by omega)]
  | succ d ih =>
    intro i out hd hi ho hW hz he
    have ra := WB_rd ha i (by omega)
    obtain ⟨x, hx⟩ := Int.eq_ofNat_of_zero_le ra.1
    have E2 := Aside0.mk (wsucc i (by omega))
    have h3 := VB_take_succ 4294967296 a i (by omega)
    have H3 := Aside0.mk h3
    clear h3
    rw [hx] at ra H3
    refine Ev.step (f := fun k => nat_Mul.l1 k b out (i : Int) (x : Int) ((0 : Nat) : Int) a (a.length : Int) (i : Int) b (b.length : Int) ((0 : Nat) : Int)) (fun k => ?_) ?_
    · show nat_Mul.l0 (k + 1) b out a (a.length : Int) (i : Int) = _
      simp only [nat_Mul.l0]
      rw [if_pos (by omega), if_pos (by omega), if_pos (by omega), hx]
      rfl
    · refine Mul_l1 a b hb i x (by omega) n hn (by omega) (VB 4294967296 (a.take i) * VB 4294967296 b) _ (fun out' ho' hW' hz' he' => ?_) _ 0 out 0 rfl (by omega) ho hW (by omega) hz ⟨?_⟩
      · rw [E2.out]
        refine ih (i + 1) out' (by omega) (by omega) ho' hW' (fun m hm => hz' m (by omega)) ⟨?_⟩
        rw [he'.out, H3.out, Nat.add_mul, Int.toNat_natCast, Nat.mul_assoc]
      · rw [he.out]
        simp [VB]
theorem Mul_f (a b : List Int) (ha : WB 4294967296 a) (hb : WB 4294967296 b) (hl : a.length + b.length < 35184372088831) :
    Ev (fun k => nat_Mul.f k a b) (NB 4294967296 (VB 4294967296 a * VB 4294967296 b)) := by
  unfold nat_Mul.f
  have E := Aside0.mk (wadd a.length b.length (by omega))
  refine Ev.congr (fun k => ?_) (Mul_l0 a b ha hb _ hl rfl _ 0 (List.replicate (a.length + b.length) 0) rfl (by omega) (by simp) (WB_rep _ _ (by omega)) (fun m _ => rd_rep _ m) ⟨by rw [VB_rep]; simp [VB]⟩)
  rw [E.out, if_pos (by omega), Int.toNat_natCast, if_pos (by omega)]
  rfl
end Go.Proofs.YtofklpmlgfbmlaaGreat.ZRatP
/- What the printed functions of nat come to, told of numbers: division by one word. -/
namespace Go.Proofs.YtofklpmlgfbmlaaGreat.ZRatP
open Go.RowKit Go.Proofs.YtofklpmlgfbmlaaGreat.Wd Go.Proofs.YtofklpmlgfbmlaaGreat.Num Go.Proofs.YtofklpmlgfbmlaaGreat.ZRat
set_option linter.unusedVariables false
set_option linter.unusedSimpArgs false

theorem div_step (b y x V q r : Nat) (hb : 0 < b) (hy : 0 < y) (hq : q = V / y) (hr : r = V % y) : (x + b * V) / y = b * q + (r * b + x) / y ∧ (x + b * V) % y = (r * b + x) % y := by
  have h1 := Nat.div_add_mod V y
  rw [← hq, ← hr] at h1
  have h2 : x + b * V = (r * b + x) + y * (b * q) := by rw [← h1]; grind
  constructor
  · rw [h2, Nat.add_mul_div_left _ _ hy, Nat.add_comm]
  · rw [h2, Nat.add_mul_mod_self_left]
/-- short: a is the number, y the divisor; of a the digits from i on are quotient's already. -/
theorem short_l0 (y : Nat) (hy : 0 < y) (hy2 : y < 4294967296) : ∀ (a : List Int) (i : Nat), a.length = i → WB 4294967296 a → i < 35184372088831 → ∀ (q : List Int) (V r : Nat), WB 4294967296 q → Aside0 (VB 4294967296 q = V / y) → Aside0 (r = V % y) →
    ∃ z : List Int, z.length = a.length + q.length ∧ WB 4294967296 z ∧ VB 4294967296 z = (VB 4294967296 a + 4294967296 ^ i * V) / y ∧
      Ev (fun k => nat_short.l0 k (a ++ q) (y : Int) (r : Int) ((i : Int) - 1)) (((((VB 4294967296 a + 4294967296 ^ i * V) % y : Nat)) : Int), z) := by
  intro a i
  induction i generalizing a with
  | zero =>
    intro hl hW hb q V r hWq hq hr
    obtain rfl := List.length_eq_zero_iff.1 hl
    refine ⟨q, by simp, hWq, by simp [VB, hq.out], ?_⟩
    have hr2 := hr.out
    have hr3 : V % y < y := Nat.mod_lt _ hy
    refine Ev.step (f := fun _ => some (((V % y : Nat) : Int), q)) (fun k => ?_) (by simp only [VB, Nat.pow_zero, Nat.one_mul, Nat.zero_add]; exact Ev.now _)
    show nat_short.l0 (k + 1) ([] ++ q) (y : Int) (r : Int) _ = _
    simp only [nat_short.l0]
    rw [if_neg (by omega), ← hr2, show (r : Int) % 4294967296 = (r : Int) from by omega]
    rfl
  | succ i ih =>
    intro hl hW hb q V r hWq hq hr
    rcases List.eq_nil_or_concat a with rfl | ⟨m, x, rfl⟩
    · simp at hl
    rw [List.concat_eq_append] at *
    have hm : m.length = i := by simpa using hl
    obtain ⟨hWm, hWx⟩ := WB_append.1 hW
    have hx := (WB_cons.1 hWx).1
    obtain ⟨x, rfl⟩ := Int.eq_ofNat_of_zero_le hx.1
    have hr3 : V % y < y := Nat.mod_lt _ hy
    have hrr := hr.out
    have hs := div_step 4294967296 y x V _ r (by omega) hy hq.out hrr
    have HS := Aside0.mk hs
    clear hs
    have hq1 : (r * 4294967296 + x) / y < 4294967296 := by
      rw [Nat.div_lt_iff_lt_mul hy]
      have : (r + 1) * 4294967296 ≤ y * 4294967296 := Nat.mul_le_mul_right _ (by omega)
      rw [Nat.mul_comm 4294967296 y]
      omega
    have HQ1 := Aside0.mk hq1
    have hr1 : (r * 4294967296 + x) % y < y := Nat.mod_lt _ hy
    have ho := or32 r x (by omega) (by omega)
    have HO := Aside0.mk ho
    clear ho
    have HY := Aside0.mk (u64in (y : Int) (by omega) (by omega))
    have HP := Aside0.mk (wpred i (by omega))
    have hWq2 : WB 4294967296 ((((r * 4294967296 + x) / y : Nat) : Int) :: q) := WB_cons.2 ⟨⟨Int.natCast_nonneg _, by exact_mod_cast hq1⟩, hWq⟩
    obtain ⟨z, hz1, hz2, hz3, hz4⟩ := ih m hm hWm (by omega) _ (x + 4294967296 * V) ((r * 4294967296 + x) % y) hWq2 ⟨by rw [HS.out.1]; simp only [VB, Int.toNat_natCast, hq.out]; omega⟩ ⟨by rw [HS.out.2]⟩
    have hval : VB 4294967296 (m ++ [(x : Int)]) + 4294967296 ^ (i + 1) * V = VB 4294967296 m + 4294967296 ^ i * (x + 4294967296 * V) := by
      rw [VB_snoc, hm, Int.toNat_natCast, Nat.mul_add, Nat.pow_succ, Nat.mul_assoc, Nat.add_assoc]
    rw [hval]
    refine ⟨z, by rw [hz1]; simp; omega, hz2, hz3, Ev.step (fun k => ?_) hz4⟩
    show nat_short.l0 (k + 1) (m ++ [(x : Int)] ++ q) (y : Int) (r : Int) _ = _
    rw [List.append_assoc, List.singleton_append]
    have hrd : rd (m ++ (x : Int) :: q) (i : Int) = (x : Int) := by rw [← hm]; exact rd_mid m _ q
    have hst : (m ++ (x : Int) :: q).set i (((r * 4294967296 + x) / y : Nat) : Int) = m ++ (((r * 4294967296 + x) / y : Nat) : Int) :: q := by rw [← hm]; exact set_mid m _ _ q
    have hln : (m ++ (x : Int) :: q).length = i + 1 + q.length := by simp; omega
    have HRD := Aside0.mk hrd
    have HST := Aside0.mk hst
    clear hrd hst
    simp only [nat_short.l0]
    rw [show ((i + 1 : Nat) : Int) - 1 = (i : Int) from by omega, if_pos (by omega), if_pos (by omega), if_pos (by omega), HY.out, if_neg (by omega), HRD.out, HO.out, tdivN, tmodN, HP.out, u64in ((((r * 4294967296 + x) / y : Nat)) : Int) (Int.natCast_nonneg _) (by have := HQ1.out; generalize (r * 4294967296 + x) / y = g at *; omega), nmod32, Nat.mod_eq_of_lt HQ1.out, Int.toNat_natCast, HST.out]
theorem short_f (a : List Int) (y : Nat) (hy : 0 < y) (hy2 : y < 4294967296) (hW : WB 4294967296 a) (hl : a.length < 35184372088831) :
    ∃ z : List Int, z.length = a.length ∧ WB 4294967296 z ∧ VB 4294967296 z = VB 4294967296 a / y ∧ Ev (fun k => nat_short.f k a (y : Int)) (((VB 4294967296 a % y : Nat) : Int), z) := by
  obtain ⟨z, h1, h2, h3, h4⟩ := short_l0 y hy hy2 a _ rfl hW hl [] 0 0 (WB_nil _) ⟨by simp [VB]⟩ ⟨by simp⟩
  rw [Nat.mul_zero, Nat.add_zero] at h3 h4
  refine ⟨z, by simpa using h1, h2, h3, ?_⟩
  unfold nat_short.f
  refine Ev.congr (fun k => ?_) h4
  rw [wpred _ (by omega), List.append_nil]
  rfl

/-- shift: c below 2^s is carried. -/
theorem shift_l0 (a : List Int) (s : Nat) (hs : s < 32) (ha : WB 4294967296 a) (hl : a.length < 35184372088831) : ∀ (d i : Nat) (out : List Int) (c : Nat), a.length - i = d → i ≤ a.length → out.length = i → WB 4294967296 out → Aside0 (c < 2 ^ s) →
    Aside0 (VB 4294967296 out + 4294967296 ^ i * c = 2 ^ s * VB 4294967296 (a.take i)) →
    ∃ z : List Int, z.length = a.length + 1 ∧ WB 4294967296 z ∧ VB 4294967296 z = 2 ^ s * VB 4294967296 a ∧ Ev (fun k => nat_shift.l0 k (s : Int) out (c : Int) a (a.length : Int) (i : Int)) z := by
  intro d
  have hp : 2 ^ s ≤ 2147483648 := by
    have := Nat.pow_le_pow_right (show 0 < 2 by omega) (show s ≤ 31 by omega)
    exact this
  induction d with
  | zero =>
    intro i out c hd hi ho hW hc he
    have hi' : i = a.length := by omega
    subst hi'
    have hc2 := hc.out
    refine ⟨out ++ [(c : Int)], by simp [ho], WB_append.2 ⟨hW, WB_cons.2 ⟨by omega, WB_nil _⟩⟩, ?_, ?_⟩
    · have := he.out
      rw [List.take_of_length_le (Nat.le_refl _)] at this
      rw [VB_snoc, ho, Int.toNat_natCast, this]
    · refine Ev.step (f := fun _ => some (out ++ [(c : Int)])) (fun k => ?_) (Ev.now _)
      show nat_shift.l0 (k + 1) (s : Int) out (c : Int) a (a.length : Int) (a.length : Int) = _
      simp only [nat_shift.l0]
      rw [if_neg (by omega), if_pos (by omega), show (c : Int) % 4294967296 = (c : Int) from by omega]
  | succ d ih =>
    intro i out c hd hi ho hW hc he
    have ra := WB_rd ha i (by omega)
    obtain ⟨x, hx⟩ := Int.eq_ofNat_of_zero_le ra.1
    have TA := Aside0.mk (VB_take_succ 4294967296 a i (by omega))
    rw [hx] at ra TA
    have hc2 := hc.out
    have hxs : x * 2 ^ s < 18446744073709551616 := by
      have : x * 2 ^ s ≤ 4294967295 * 2147483648 := Nat.mul_le_mul (by omega) hp
      omega
    have hsh : shl .u64 (IntKind.u64.wrap (x : Int)) (s : Int) = ((x * 2 ^ s : Nat) : Int) := by
      unfold shl
      rw [u64in (x : Int) (by omega) (by omega), Int.toNat_natCast, show IntKind.u64.bits = 64 from rfl, Nat.min_eq_left (by omega)]
      have e : (x : Int) * 2 ^ s = ((x * 2 ^ s : Nat) : Int) := by simp
      rw [e]
      exact u64in _ (by omega) (by omega)
    have hor := orlow c (x * 2 ^ s) s (by omega) hc2 (Nat.mul_mod_left _ _) hxs
    have hdiv : (c + x * 2 ^ s) / 4294967296 < 2 ^ s := by
      rw [Nat.div_lt_iff_lt_mul (by omega)]
      have : (x + 1) * 2 ^ s ≤ 4294967296 * 2 ^ s := Nat.mul_le_mul_right _ (by omega)
      rw [Nat.add_mul, Nat.one_mul] at this
      rw [Nat.mul_comm (2 ^ s)]
      exact Nat.lt_of_lt_of_le (by omega) this
    have HSH := Aside0.mk hsh
    have HOR := Aside0.mk hor
    have HD := Aside0.mk hdiv
    have E2 := Aside0.mk (wsucc i (by omega))
    clear hsh hor hdiv hxs
    obtain ⟨z, h1, h2, h3, h4⟩ := ih (i + 1) (out ++ [(((c + x * 2 ^ s) % 4294967296 : Nat) : Int)]) ((c + x * 2 ^ s) / 4294967296) (by omega) (by omega) (by simp [ho]) (WB_append.2 ⟨hW, WB_cons.2 ⟨by omega, WB_nil _⟩⟩) HD ⟨by
      rw [VB_snoc, ho, Int.toNat_natCast, carry_step, TA.out, Int.toNat_natCast, Nat.mul_add, Nat.mul_add, ← Nat.add_assoc, he.out]
      congr 1
      rw [Nat.mul_comm x, Nat.mul_left_comm]⟩
    refine ⟨z, h1, h2, h3, Ev.step (fun k => ?_) h4⟩
    show nat_shift.l0 (k + 1) (s : Int) out (c : Int) a (a.length : Int) (i : Int) = _
    simp only [nat_shift.l0]
    rw [if_pos (by omega), if_pos (by omega), if_pos (by omega), if_pos (by omega), if_pos (by omega), hx, HSH.out, HOR.out, nmod32, ndiv32, E2.out]
theorem shift_f (a : List Int) (s : Nat) (hs : s < 32) (ha : WB 4294967296 a) (hl : a.length < 35184372088831) :
    ∃ z : List Int, z.length = a.length + 1 ∧ WB 4294967296 z ∧ VB 4294967296 z = 2 ^ s * VB 4294967296 a ∧ Ev (fun k => nat_shift.f k a (s : Int)) z := by
  obtain ⟨z, h1, h2, h3, h4⟩ := shift_l0 a s hs ha hl _ 0 [] 0 rfl (by omega) rfl (WB_nil _) ⟨Nat.two_pow_pos s⟩ ⟨by simp [VB]⟩
  refine ⟨z, h1, h2, h3, ?_⟩
  unfold nat_shift.f
  refine Ev.congr (fun k => ?_) h4
  rw [wsucc _ (by omega), if_pos (by omega), Int.toNat_natCast, if_pos (by omega)]
  rfl
end Go.Proofs.YtofklpmlgfbmlaaGreat.ZRatP
/- What the printed functions of nat come to, told of numbers: the guess of a quotient's word. -/
namespace Go.Proofs.YtofklpmlgfbmlaaGreat.ZRatP
open Go.RowKit Go.Proofs.YtofklpmlgfbmlaaGreat.Wd Go.Proofs.YtofklpmlgfbmlaaGreat.Num Go.Proofs.YtofklpmlgfbmlaaGreat.ZRat
set_option linter.unusedVariables false
set_option linter.unusedSimpArgs false

/-- q times the divisor is too much, if its two highest words say so. -/
theorem guess_over (b W U0 V0 u2 two top next q r : Nat) (hU : U0 < W) (ht : q * top + r = two) (h : r * b + u2 < q * next) :
    (U0 + W * (u2 + b * two)) / (V0 + W * (next + b * top)) < q := by
  have hq : 0 < q := by
    rcases Nat.eq_zero_or_pos q with rfl | h1
    · simp at h
    · exact h1
  have hV2 : 0 < next := by
    rcases Nat.eq_zero_or_pos next with rfl | h1
    · simp at h
    · exact h1
  rw [Nat.div_lt_iff_lt_mul (by have : 0 < W * (next + b * top) := Nat.mul_pos (by omega) (by omega); omega)]
  have h1 : u2 + b * two + 1 ≤ q * (next + b * top) := by
    rw [← ht]
    have : q * (next + b * top) = q * next + b * (q * top) := by grind
    rw [this, Nat.mul_add]
    have : r * b = b * r := Nat.mul_comm _ _
    omega
  clear ht h hV2
  generalize next + b * top = X at *
  generalize u2 + b * two = T at *
  have h2 := Nat.mul_le_mul_left W h1
  have h3 : W * (q * X) ≤ q * (V0 + W * X) := by
    have : q * (V0 + W * X) = q * V0 + W * (q * X) := by grind
    rw [this]
    exact Nat.le_add_left _ _
  have h4 : W * (T + 1) = W * T + W := by rw [Nat.mul_add, Nat.mul_one]
  rw [h4] at h2
  exact Nat.lt_of_lt_of_le (by rw [Nat.add_comm]; exact Nat.add_lt_add_left hU _) (Nat.le_trans h2 h3)
/-- If they don't, q is at most one too great. -/
theorem guess_near (b W U0 V0 u2 two top next q r : Nat) (hb : 2 ≤ b) (hV : V0 < W) (htop : b ≤ 2 * top) (hq : q < b) (ht : q * top + r = two) (h : q * next ≤ r * b + u2) :
    q ≤ (U0 + W * (u2 + b * two)) / (V0 + W * (next + b * top)) + 1 := by
  rcases q with _ | p
  · exact Nat.zero_le _
  have hV2 : p ≤ next + b * top := by
    have : 2 * top ≤ b * top := Nat.mul_le_mul_right _ hb
    omega
  have hpos : 0 < V0 + W * (next + b * top) := by
    have h0 : 0 < b * top := Nat.mul_pos (by omega) (by omega)
    have : 0 < W * (next + b * top) := Nat.mul_pos (by omega) (by omega)
    omega
  have h1 : (p + 1) * (next + b * top) ≤ u2 + b * two := by
    rw [← ht]
    have e : (p + 1) * (next + b * top) = (p + 1) * next + b * ((p + 1) * top) := by grind
    rw [e, Nat.mul_add b]
    have : r * b = b * r := Nat.mul_comm _ _
    omega
  have h2 : p + p * (next + b * top) ≤ u2 + b * two := by
    rw [Nat.add_mul, Nat.one_mul] at h1
    omega
  have h3 := Nat.mul_le_mul_left W h2
  have h4 : p * (V0 + W * (next + b * top)) ≤ W * (p + p * (next + b * top)) := by
    have e1 : p * (V0 + W * (next + b * top)) = p * V0 + W * (p * (next + b * top)) := by grind
    have e2 : W * (p + p * (next + b * top)) = p * W + W * (p * (next + b * top)) := by grind
    have e3 : p * V0 ≤ p * W := Nat.mul_le_mul_left _ (by omega)
    omega
  have h5 : p ≤ (U0 + W * (u2 + b * two)) / (V0 + W * (next + b * top)) := by
    rw [Nat.le_div_iff_mul_le hpos]
    omega
  omega
theorem guess_first (b W U0 V0 u2 two top next : Nat) (hb : 2 ≤ b) (hU : U0 < W) (hu : u2 < b) (htop : 0 < top) :
    (U0 + W * (u2 + b * two)) / (V0 + W * (next + b * top)) ≤ two / top := by
  have hpos : 0 < V0 + W * (next + b * top) := by
    have h0 : 0 < b * top := Nat.mul_pos (by omega) (by omega)
    have : 0 < W * (next + b * top) := Nat.mul_pos (by omega) (by omega)
    omega
  have h : (U0 + W * (u2 + b * two)) / (V0 + W * (next + b * top)) < two / top + 1 := by
    rw [Nat.div_lt_iff_lt_mul hpos]
    have h1 : two + 1 ≤ (two / top + 1) * top := by
      have := Nat.div_add_mod two top
      have h2 := Nat.mod_lt two htop
      rw [Nat.add_mul, Nat.one_mul, Nat.mul_comm (two / top)]
      omega
    generalize two / top = q at *
    have h2 : W * (b * (two + 1)) ≤ W * (b * ((q + 1) * top)) := Nat.mul_le_mul_left _ (Nat.mul_le_mul_left _ h1)
    have h3 : (q + 1) * (V0 + W * (next + b * top)) = (q + 1) * V0 + W * ((q + 1) * next) + W * (b * ((q + 1) * top)) := by grind
    have h4 : W * (u2 + b * two) + W ≤ W * (b * (two + 1)) := by
      have : u2 + b * two + 1 ≤ b * (two + 1) := by rw [Nat.mul_add]; omega
      have := Nat.mul_le_mul_left W this
      rw [Nat.mul_add W, Nat.mul_one] at this
      omega
    omega
  omega
theorem guess_top (b W U0 V0 u0 u1 u2 top next : Nat) (hV : V0 < W) (hn : next < b) (h : U0 + W * (u2 + b * (u0 * b + u1)) < b * (V0 + W * (next + b * top))) : u0 ≤ top := by
  rcases Nat.lt_or_ge top u0 with h1 | h1
  · exfalso
    have h2 : W * (b * ((top + 1) * b)) ≤ W * (b * (u0 * b)) := Nat.mul_le_mul_left _ (Nat.mul_le_mul_left _ (Nat.mul_le_mul_right _ h1))
    have h3 : W * (u2 + b * (u0 * b + u1)) = W * u2 + W * (b * u1) + W * (b * (u0 * b)) := by grind
    have h4 : b * (V0 + W * (next + b * top)) ≤ W * (b * ((top + 1) * b)) := by
      have h5 : V0 + W * (next + b * top) ≤ W * ((top + 1) * b) := by
        have : next + b * top + 1 ≤ (top + 1) * b := by rw [Nat.add_mul, Nat.mul_comm top]; omega
        have := Nat.mul_le_mul_left W this
        rw [Nat.mul_add W, Nat.mul_one] at this
        omega
      have := Nat.mul_le_mul_left b h5
      rw [show W * (b * ((top + 1) * b)) = b * (W * ((top + 1) * b)) from by grind]
      exact this
    omega
  · exact h1
/-- The loop: q goes down to the quotient, or to one more. -/
theorem guess_l0 (u : List Int) (m : Nat) (hm : 2 ≤ m) (hmm : m < 35184372088832) (hl : u.length = m + 1) (W U0 V0 u2 two top next : Nat) (h2 : rd u ((m - 2 : Nat) : Int) = (u2 : Int)) (hu2 : u2 < 4294967296) (hnext : next < 4294967296) (ht1 : 2147483648 ≤ top) (ht2 : top < 4294967296)
    (hU : U0 < W) (hV : V0 < W) (Q : Nat) (hQ : Aside0 (Q = (U0 + W * (u2 + 4294967296 * two)) / (V0 + W * (next + 4294967296 * top)))) (hQb : Q < 4294967296) : ∀ (q r : Nat), r < 4294967296 → Aside0 (q * top + r = two) → Q ≤ q → q ≤ 4294967297 → (q = 4294967297 → r + top < 4294967296) →
    ∃ q' : Nat, q' < 4294967296 ∧ Q ≤ q' ∧ q' ≤ Q + 1 ∧ Ev (fun k => nat_guess.l0 k u (top : Int) (next : Int) (m : Int) (q : Int) (r : Int)) (q' : Int) := by
  intro q
  induction q with
  | zero =>
    intro r hr ht hQq hq1 hq2
    have e : wrap64 ((m : Int) - 2) = ((m - 2 : Nat) : Int) := by rw [w64in ((m : Int) - 2) (by omega) (by omega)]; omega
    have E := Aside0.mk e
    clear e
    refine ⟨0, by omega, hQq, by omega, ?_⟩
    refine Ev.step (f := fun k => nat_guess.j1 k u (top : Int) (next : Int) (m : Int) ((0 : Nat) : Int) (r : Int) false) (fun k => ?_) ?_
    · show nat_guess.l0 (k + 1) u (top : Int) (next : Int) (m : Int) ((0 : Nat) : Int) (r : Int) = _
      simp only [nat_guess.l0]
      rw [if_neg (by omega), E.out, if_pos (by omega), if_pos (by omega), h2, or32 r u2 hr hu2]
      congr 1
      rw [show ((0 : Nat) : Int) * (next : Int) = 0 from by omega, u64in 0 (by omega) (by omega)]
      exact decide_eq_false (by omega)
    · refine Ev.step (f := fun _ => some ((0 : Nat) : Int)) (fun k => ?_) (Ev.now _)
      show nat_guess.j1 (k + 1) u _ _ _ _ _ false = _
      rw [nat_guess.j1]
      exact if_neg Bool.false_ne_true
  | succ q ih =>
    intro r hr ht hQq hq1 hq2
    have e : wrap64 ((m : Int) - 2) = ((m - 2 : Nat) : Int) := by rw [w64in ((m : Int) - 2) (by omega) (by omega)]; omega
    have E := Aside0.mk e
    clear e
    have hrt : IntKind.u64.wrap ((r : Int) + (top : Int)) = ((r + top : Nat) : Int) := by rw [u64in ((r : Int) + (top : Int)) (by omega) (by omega)]; omega
    have hq1' : IntKind.u64.wrap (((q + 1 : Nat) : Int) - 1) = (q : Int) := by rw [u64in (((q + 1 : Nat) : Int) - 1) (by omega) (by omega)]; omega
    have HRT := Aside0.mk hrt
    have HQ1 := Aside0.mk hq1'
    clear hrt hq1'
    have ht' : q * top + (r + top) = two := by
      have := ht.out
      rw [Nat.add_mul, Nat.one_mul] at this
      omega
    -- what follows, if q + 1 is told too great
    have down : Q < q + 1 → ∃ q' : Nat, q' < 4294967296 ∧ Q ≤ q' ∧ q' ≤ Q + 1 ∧ Ev (fun k => nat_guess.j1 k u (top : Int) (next : Int) (m : Int) ((q + 1 : Nat) : Int) (r : Int) true) (q' : Int) := by
      intro hlt
      by_cases hbr : 4294967296 ≤ r + top
      · have hqb : q < 4294967296 := by omega
        refine ⟨q, hqb, by omega, ?_, ?_⟩
        · rw [hQ.out]
          refine guess_near 4294967296 W U0 V0 u2 two top next q (r + top) (by omega) hV (by omega) hqb ht' ?_
          have h1 : q * next ≤ 4294967295 * 4294967295 := Nat.mul_le_mul (by omega) (by omega)
          have h2 : 4294967296 * 4294967296 ≤ (r + top) * 4294967296 := Nat.mul_le_mul_right _ hbr
          omega
        · refine Ev.step (f := fun _ => some (q : Int)) (fun k => ?_) (Ev.now _)
          show nat_guess.j1 (k + 1) u _ _ _ _ _ true = _
          simp only [nat_guess.j1]
          rw [if_pos trivial, HRT.out, HQ1.out, if_pos (by omega)]
      · obtain ⟨q', h1, h2', h3, h4⟩ := ih (r + top) (by omega) ⟨ht'⟩ (by omega) (by omega) (by omega)
        refine ⟨q', h1, h2', h3, Ev.step (fun k => ?_) h4⟩
        show nat_guess.j1 (k + 1) u _ _ _ _ _ true = _
        simp only [nat_guess.j1]
        rw [if_pos trivial, HRT.out, HQ1.out, if_neg (by omega)]
    by_cases hge : 4294967296 ≤ q + 1
    · obtain ⟨q', h1, h2', h3, h4⟩ := down (by omega)
      refine ⟨q', h1, h2', h3, Ev.step (fun k => ?_) h4⟩
      show nat_guess.l0 (k + 1) u (top : Int) (next : Int) (m : Int) ((q + 1 : Nat) : Int) (r : Int) = _
      simp only [nat_guess.l0]
      rw [if_pos (by omega)]
    · have hqn : (q + 1) * next < 18446744073709551616 := by
        have : (q + 1) * next ≤ 4294967295 * 4294967295 := Nat.mul_le_mul (by omega) (by omega)
        omega
      have hw : IntKind.u64.wrap (((q + 1 : Nat) : Int) * (next : Int)) = (((q + 1) * next : Nat) : Int) := by
        rw [← Int.natCast_mul]
        exact u64in _ (Int.natCast_nonneg _) (by generalize (q + 1) * next = g at hqn ⊢; omega)
      have HW := Aside0.mk hw
      clear hw
      have hstep : ∀ k, nat_guess.l0 (k + 1) u (top : Int) (next : Int) (m : Int) ((q + 1 : Nat) : Int) (r : Int) = nat_guess.j1 k u (top : Int) (next : Int) (m : Int) ((q + 1 : Nat) : Int) (r : Int) (decide (r * 4294967296 + u2 < (q + 1) * next)) := by
        intro k
        simp only [nat_guess.l0]
        rw [if_neg (by omega), E.out, if_pos (by omega), if_pos (by omega), h2, or32 r u2 hr hu2, HW.out]
        congr 1
        exact decide_eq_decide.2 (by generalize (q + 1) * next = g; omega)
      by_cases hgt : r * 4294967296 + u2 < (q + 1) * next
      · have hlt := guess_over 4294967296 W U0 V0 u2 two top next (q + 1) r hU ht.out hgt
        rw [← hQ.out] at hlt
        obtain ⟨q', h1, h2', h3, h4⟩ := down hlt
        refine ⟨q', h1, h2', h3, Ev.step (fun k => ?_) h4⟩
        rw [hstep, decide_eq_true hgt]
      · refine ⟨q + 1, by omega, hQq, ?_, ?_⟩
        · rw [hQ.out]
          exact guess_near 4294967296 W U0 V0 u2 two top next (q + 1) r (by omega) hV (by omega) (by omega) ht.out (by omega)
        · refine Ev.step (f := fun k => nat_guess.j1 k u (top : Int) (next : Int) (m : Int) ((q + 1 : Nat) : Int) (r : Int) false) (fun k => ?_) ?_
          · rw [hstep, decide_eq_false hgt]
          · refine Ev.step (f := fun _ => some ((q + 1 : Nat) : Int)) (fun k => ?_) (Ev.now _)
            show nat_guess.j1 (k + 1) u _ _ _ _ _ false = _
            rw [nat_guess.j1]
            exact if_neg Bool.false_ne_true
theorem guess_f (u v : List Int) (m : Nat) (hm : 2 ≤ m) (hmm : m < 35184372088832) (hl : u.length = m + 1) (hv : v.length = m) (hWu : WB 4294967296 u) (hWv : WB 4294967296 v) (top next : Nat) (ht : rd v ((m - 1 : Nat) : Int) = (top : Int)) (hn : rd v ((m - 2 : Nat) : Int) = (next : Int)) (ht1 : 2147483648 ≤ top)
    (hlt : Aside0 (VB 4294967296 u < 4294967296 * VB 4294967296 v)) :
    ∃ q : Nat, q < 4294967296 ∧ VB 4294967296 u / VB 4294967296 v ≤ q ∧ q ≤ VB 4294967296 u / VB 4294967296 v + 1 ∧ Ev (fun k => nat_guess.f k u (top : Int) (next : Int)) (q : Int) := by
  have r0 := WB_rd hWu m (by omega)
  have r1 := WB_rd hWu (m - 1) (by omega)
  have r2 := WB_rd hWu (m - 2) (by omega)
  have rt := WB_rd hWv (m - 1) (by omega)
  have rn := WB_rd hWv (m - 2) (by omega)
  obtain ⟨u0, h0⟩ := Int.eq_ofNat_of_zero_le r0.1
  obtain ⟨u1, h1⟩ := Int.eq_ofNat_of_zero_le r1.1
  obtain ⟨u2, h2⟩ := Int.eq_ofNat_of_zero_le r2.1
  rw [h0] at r0
  rw [h1] at r1
  rw [h2] at r2
  rw [ht] at rt
  rw [hn] at rn
  have hu : VB 4294967296 u = VB 4294967296 (u.take (m - 2)) + 4294967296 ^ (m - 2) * (u2 + 4294967296 * (u0 * 4294967296 + u1)) := by
    rw [VB_split 4294967296 u (m - 2) (by omega), VB_drop_rd _ _ (m - 2) (by omega), h2, show m - 2 + 1 = m - 1 from by omega, VB_drop_rd _ _ (m - 1) (by omega), h1, show m - 1 + 1 = m from by omega, VB_drop_rd _ _ m (by omega), h0, List.drop_of_length_le (by omega)]
    simp only [Int.toNat_natCast, VB, Nat.mul_zero, Nat.add_zero]
    rw [Nat.mul_comm u0, Nat.add_comm u1]
  have hvv : VB 4294967296 v = VB 4294967296 (v.take (m - 2)) + 4294967296 ^ (m - 2) * (next + 4294967296 * top) := by
    rw [VB_split 4294967296 v (m - 2) (by omega), VB_drop_rd _ _ (m - 2) (by omega), hn, show m - 2 + 1 = m - 1 from by omega, VB_drop_rd _ _ (m - 1) (by omega), ht, List.drop_of_length_le (by omega)]
    simp only [Int.toNat_natCast, VB, Nat.mul_zero, Nat.add_zero]
  have hU := VB_lt (by omega) (WB_take hWu (m - 2))
  have hV := VB_lt (by omega) (WB_take hWv (m - 2))
  rw [show (u.take (m - 2)).length = m - 2 from by rw [List.length_take]; omega] at hU
  rw [show (v.take (m - 2)).length = m - 2 from by rw [List.length_take]; omega] at hV
  have hlt' := hlt.out
  clear hlt
  have hQb : VB 4294967296 u / VB 4294967296 v < 4294967296 := by
    rw [Nat.div_lt_iff_lt_mul]
    · exact hlt'
    · rcases Nat.eq_zero_or_pos (VB 4294967296 v) with h | h
      · rw [h] at hlt'; simp at hlt'
      · exact h
  rw [hu, hvv] at hlt' hQb ⊢
  have HU := Aside0.mk hU
  have HV := Aside0.mk hV
  have HLT := Aside0.mk hlt'
  clear hU hV hlt' hu hvv
  generalize VB 4294967296 (u.take (m - 2)) = U0 at *
  generalize VB 4294967296 (v.take (m - 2)) = V0 at *
  generalize 4294967296 ^ (m - 2) = W at *
  have hu0 : u0 ≤ top := guess_top 4294967296 W U0 V0 u0 u1 u2 top next HV.out (by omega) HLT.out
  have htwo : u0 * 4294967296 + u1 ≤ top * 4294967296 + 4294967295 := by omega
  have hfirst := guess_first 4294967296 W U0 V0 u2 (u0 * 4294967296 + u1) top next (by omega) HU.out (by omega) (by omega)
  have hdm := Nat.div_add_mod (u0 * 4294967296 + u1) top
  have hml := Nat.mod_lt (u0 * 4294967296 + u1) (show 0 < top by omega)
  have hor := or32 u0 u1 (by omega) (by omega)
  have HOR := Aside0.mk hor
  clear hor
  obtain ⟨two, htw⟩ : ∃ t : Nat, t = u0 * 4294967296 + u1 := ⟨_, rfl⟩
  rw [← htw] at htwo hfirst hdm hml HOR hQb ⊢
  have hq1 : two / top ≤ 4294967297 := by
    have : two / top < 4294967298 := by
      rw [Nat.div_lt_iff_lt_mul (by omega)]
      omega
    omega
  have hq2 : two / top = 4294967297 → two % top + top < 4294967296 := by
    intro h
    rw [h] at hdm
    omega
  have hqr : two / top * top + two % top = two := by rw [Nat.mul_comm]; exact hdm
  have HQR := Aside0.mk hqr
  clear hqr hdm
  have hdN := tdivN two top
  have hmN := tmodN two top
  generalize hgq : two / top = q0 at *
  generalize hgr : two % top = r0' at *
  clear hgq hgr
  obtain ⟨q', g1, g2, g3, g4⟩ := guess_l0 u m hm hmm hl W U0 V0 u2 two top next h2 (by omega) (by omega) ht1 (by omega) HU.out HV.out _ ⟨rfl⟩ hQb q0 r0' (by omega) HQR hfirst hq1 hq2
  refine ⟨q', g1, g2, g3, ?_⟩
  unfold nat_guess.f
  refine Ev.congr (fun k => ?_) g4
  have e1 : wrap64 ((u.length : Int) - 1) = ((m : Nat) : Int) := by rw [hl, wpred _ (by omega)]; omega
  have e2 : wrap64 ((m : Int) - 1) = ((m - 1 : Nat) : Int) := by rw [wpred _ (by omega)]; omega
  have E1 := Aside0.mk e1
  have E2 := Aside0.mk e2
  clear e1 e2
  rw [E1.out, E2.out, if_pos (by omega), if_pos (by omega), if_pos (by omega), if_pos (by omega), if_neg (by omega), h0, h1, u64in (u0 : Int) (by omega) (by omega), HOR.out, hdN, hmN, u64in (q0 : Int) (by omega) (by omega)]
end Go.Proofs.YtofklpmlgfbmlaaGreat.ZRatP
/- What the printed functions of nat come to, told of numbers: taking off a multiple, giving back. -/
namespace Go.Proofs.YtofklpmlgfbmlaaGreat.ZRatP
open Go.RowKit Go.Proofs.YtofklpmlgfbmlaaGreat.Wd Go.Proofs.YtofklpmlgfbmlaaGreat.Num Go.Proofs.YtofklpmlgfbmlaaGreat.ZRat
set_option linter.unusedVariables false
set_option linter.unusedSimpArgs false

theorem off_word (x p d : Nat) (hx : x < 4294967296) (hp : p < 18446744073709551616) (hd : d ≤ 1) :
    ∃ z d' : Nat, z < 4294967296 ∧ d' ≤ 1 ∧ z + p % 4294967296 + d = x + 4294967296 * d' ∧
      (IntKind.u64.wrap ((IntKind.u64.wrap ((IntKind.u64.wrap (x : Int)) - ((p : Int) % 4294967296))) - (d : Int))) % 4294967296 = (z : Int) ∧
      (IntKind.u64.wrap ((IntKind.u64.wrap ((IntKind.u64.wrap (x : Int)) - ((p : Int) % 4294967296))) - (d : Int))) / 9223372036854775808 = (d' : Int) := by
  rw [u64w, u64w, u64w]
  rcases Nat.lt_or_ge x (p % 4294967296 + d) with h | h
  · exact ⟨x + 4294967296 - p % 4294967296 - d, 1, by omega, by omega, by omega, by omega, by omega⟩
  · exact ⟨x - p % 4294967296 - d, 0, by omega, by omega, by omega, by omega, by omega⟩
theorem off_step (b i P Q A c d y x z d' p : Nat) (h : P + Q = A + b ^ i * (c + d)) (hz : z + p % b + d = x + b * d') (q : Nat) (hp : p = c + q * y) :
    (P + b ^ i * z) + (Q + q * (b ^ i * y)) = (A + b ^ i * x) + b ^ (i + 1) * (p / b + d') := by
  have h1 : P + b ^ i * z + (Q + q * (b ^ i * y)) = A + b ^ i * (c + d + z + q * y) := by
    have : b ^ i * (c + d + z + q * y) = b ^ i * (c + d) + b ^ i * z + q * (b ^ i * y) := by grind
    rw [this]
    omega
  have h2 : c + d + z + q * y = x + b * (p / b + d') := by
    have := Nat.div_add_mod p b
    rw [Nat.mul_add]
    omega
  rw [h1, h2, Nat.mul_add, Nat.pow_succ, Nat.mul_assoc, Nat.add_assoc]
theorem off_l0 (v : List Int) (q : Nat) (hv : WB 4294967296 v) (hq : q < 4294967296) : ∀ (R P : List Int) (n i c d A : Nat), P.length = i → n = i + R.length → n < 35184372088832 → WB 4294967296 P → WB 4294967296 R → c < 4294967296 → (v.length < i → c = 0) → d ≤ 1 →
    Aside0 (VB 4294967296 P + q * VB 4294967296 (v.take i) = A + 4294967296 ^ i * (c + d)) →
    ∃ (z : List Int) (c' d' : Nat), z.length = n ∧ WB 4294967296 z ∧ d' ≤ 1 ∧ (v.length < n → c' = 0) ∧
      VB 4294967296 z + q * VB 4294967296 (v.take n) = A + 4294967296 ^ i * VB 4294967296 R + 4294967296 ^ n * (c' + d') ∧
      Ev (fun k => nat_off.l0 k (P ++ R) v (q : Int) (c : Int) (d : Int) (n : Int) (i : Int)) ((d' : Int) != 0, z) := by
  intro R
  induction R with
  | nil =>
    intro P n i c d A hP hn hb hWP hWR hc hc0 hd h
    have hni : n = i := by simpa using hn
    subst hni
    refine ⟨P, c, d, hP, hWP, hd, hc0, by simpa [VB] using h.out, ?_⟩
    refine Ev.step (f := fun _ => some ((d : Int) != 0, P)) (fun k => ?_) (Ev.now _)
    show nat_off.l0 (k + 1) (P ++ []) v (q : Int) (c : Int) (d : Int) (n : Int) (n : Int) = _
    simp only [nat_off.l0]
    rw [if_neg (by omega), List.append_nil]
  | cons x R ih =>
    intro P n i c d A hP hn hb hWP hWR hc hc0 hd h
    obtain ⟨hx, hWR'⟩ := WB_cons.1 hWR
    obtain ⟨x, rfl⟩ := Int.eq_ofNat_of_zero_le hx.1
    have hlen : (P ++ (x : Int) :: R).length = n := by rw [hn]; simp [hP]
    have hrd : rd (P ++ (x : Int) :: R) (i : Int) = (x : Int) := by rw [← hP]; exact rd_mid P _ R
    have hst : ∀ w : Int, (P ++ (x : Int) :: R).set i w = (P ++ [w]) ++ R := by
      intro w
      rw [← hP, set_mid P _ _ R, List.append_assoc, List.singleton_append]
    have HRD := Aside0.mk hrd
    have HST := Aside0.mk hst
    clear hrd hst
    have E2 := Aside0.mk (wsucc i (by simp at hn; omega))
    have hin : i < n := by rw [hn]; simp
    have hpow : A + 4294967296 ^ i * VB 4294967296 ((x : Int) :: R) = (A + 4294967296 ^ i * x) + 4294967296 ^ (i + 1) * VB 4294967296 R := by
      simp only [VB, Int.toNat_natCast]
      rw [Nat.mul_add, Nat.pow_succ, Nat.mul_assoc, Nat.add_assoc]
    rw [hpow]
    have HPW := Aside0.mk hpow
    clear hpow
    by_cases hiv : i < v.length
    · have rv := WB_rd hv i hiv
      obtain ⟨y, hy⟩ := Int.eq_ofNat_of_zero_le rv.1
      rw [hy] at rv
      have hqy : q * y ≤ 4294967295 * 4294967295 := Nat.mul_le_mul (by omega) (by omega)
      have hp : IntKind.u64.wrap ((c : Int) + IntKind.u64.wrap ((q : Int) * IntKind.u64.wrap (y : Int))) = ((c + q * y : Nat) : Int) := by
        rw [u64in (y : Int) (by omega) (by omega), ← Int.natCast_mul]
        generalize q * y = g at hqy ⊢
        rw [u64in (g : Int) (by omega) (by omega), u64in ((c : Int) + (g : Int)) (by omega) (by omega)]
        omega
      have HP := Aside0.mk hp
      clear hp
      obtain ⟨z, d', hz1, hz2, hz3, hz4, hz5⟩ := off_word x (c + q * y) d (by omega) (by omega) hd
      have hstep := off_step 4294967296 i _ _ A c d y x z d' _ h.out hz3 q rfl
      rw [← Nat.mul_add] at hstep
      have htk := VB_take_succ 4294967296 v i hiv
      rw [hy, Int.toNat_natCast] at htk
      rw [← htk] at hstep
      have HZ4 := Aside0.mk hz4
      have HZ5 := Aside0.mk hz5
      clear hz4 hz5
      obtain ⟨z', c', dd, g1, g2, g3, g4, g5, g6⟩ := ih (P ++ [(z : Int)]) n (i + 1) ((c + q * y) / 4294967296) d' (A + 4294967296 ^ i * x) (by simp [hP]) (by rw [hn]; simp; omega) hb (WB_append.2 ⟨hWP, WB_cons.2 ⟨by omega, WB_nil _⟩⟩) hWR' (by omega) (by omega) hz2 ⟨by rw [VB_snoc, hP, Int.toNat_natCast]; exact hstep⟩
      refine ⟨z', c', dd, g1, g2, g3, g4, g5, Ev.step (fun k => ?_) g6⟩
      show nat_off.l0 (k + 1) (P ++ (x : Int) :: R) v (q : Int) (c : Int) (d : Int) (n : Int) (i : Int) = _
      simp only [nat_off.l0]
      rw [if_pos (by omega), if_pos (by omega), if_pos (by omega), if_pos (by omega), HRD.out, hy, HP.out, HZ4.out, HZ5.out, ndiv32, Int.toNat_natCast, HST.out, E2.out]
    · obtain ⟨z, d', hz1, hz2, hz3, hz4, hz5⟩ := off_word x c d (by omega) (by omega) hd
      have hstep := off_step 4294967296 i _ _ A c d 0 x z d' _ h.out hz3 q (by simp)
      rw [Nat.mul_zero, Nat.mul_zero, Nat.add_zero] at hstep
      have htk : v.take (i + 1) = v.take i := by rw [List.take_of_length_le (by omega), List.take_of_length_le (by omega)]
      rw [← htk] at hstep
      have HZ4 := Aside0.mk hz4
      have HZ5 := Aside0.mk hz5
      clear hz4 hz5
      obtain ⟨z', c', dd, g1, g2, g3, g4, g5, g6⟩ := ih (P ++ [(z : Int)]) n (i + 1) (c / 4294967296) d' (A + 4294967296 ^ i * x) (by simp [hP]) (by rw [hn]; simp; omega) hb (WB_append.2 ⟨hWP, WB_cons.2 ⟨by omega, WB_nil _⟩⟩) hWR' (by omega) (by omega) hz2 ⟨by rw [VB_snoc, hP, Int.toNat_natCast]; exact hstep⟩
      refine ⟨z', c', dd, g1, g2, g3, g4, g5, Ev.step (fun k => ?_) g6⟩
      show nat_off.l0 (k + 1) (P ++ (x : Int) :: R) v (q : Int) (c : Int) (d : Int) (n : Int) (i : Int) = _
      simp only [nat_off.l0]
      rw [if_pos (by omega), if_neg (by omega), if_pos (by omega), if_pos (by omega), HRD.out, HZ4.out, HZ5.out, ndiv32, Int.toNat_natCast, HST.out, E2.out]
theorem off_f (u v : List Int) (q : Nat) (hu : WB 4294967296 u) (hv : WB 4294967296 v) (hq : q < 4294967296) (hl : v.length < u.length) (hb : u.length < 35184372088832) :
    ∃ (z : List Int) (d : Nat), z.length = u.length ∧ WB 4294967296 z ∧ d ≤ 1 ∧ VB 4294967296 z + q * VB 4294967296 v = VB 4294967296 u + 4294967296 ^ u.length * d ∧
      Ev (fun k => nat_off.f k u v (q : Int)) ((d : Int) != 0, z) := by
  obtain ⟨z, c, d, h1, h2, h3, h4, h5, h6⟩ := off_l0 v q hv hq u [] u.length 0 0 0 0 rfl (by simp) hb (WB_nil _) hu (by omega) (by omega) (by omega) ⟨by simp [VB]⟩
  refine ⟨z, d, h1, h2, h3, ?_, h6⟩
  rw [h4 hl, List.take_of_length_le (by omega)] at h5
  simpa using h5
theorem back_l0 (v : List Int) (hv : WB 4294967296 v) : ∀ (R P : List Int) (n i c A : Nat), P.length = i → n = i + R.length → n < 35184372088832 → WB 4294967296 P → WB 4294967296 R → c ≤ 1 →
    Aside0 (VB 4294967296 P + 4294967296 ^ i * c = A + VB 4294967296 (v.take i)) →
    ∃ (z : List Int) (c' : Nat), z.length = n ∧ WB 4294967296 z ∧ c' ≤ 1 ∧
      VB 4294967296 z + 4294967296 ^ n * c' = A + 4294967296 ^ i * VB 4294967296 R + VB 4294967296 (v.take n) ∧
      Ev (fun k => nat_back.l0 k (P ++ R) v (c : Int) (n : Int) (i : Int)) z := by
  intro R
  induction R with
  | nil =>
    intro P n i c A hP hn hb hWP hWR hc h
    have hni : n = i := by simpa using hn
    subst hni
    refine ⟨P, c, hP, hWP, hc, by simpa [VB] using h.out, ?_⟩
    refine Ev.step (f := fun _ => some P) (fun k => ?_) (Ev.now _)
    show nat_back.l0 (k + 1) (P ++ []) v (c : Int) (n : Int) (n : Int) = _
    simp only [nat_back.l0]
    rw [if_neg (by omega), List.append_nil]
  | cons x R ih =>
    intro P n i c A hP hn hb hWP hWR hc h
    obtain ⟨hx, hWR'⟩ := WB_cons.1 hWR
    obtain ⟨x, rfl⟩ := Int.eq_ofNat_of_zero_le hx.1
    have hlen : (P ++ (x : Int) :: R).length = n := by rw [hn]; simp [hP]
    have hrd : rd (P ++ (x : Int) :: R) (i : Int) = (x : Int) := by rw [← hP]; exact rd_mid P _ R
    have hst : ∀ w : Int, (P ++ (x : Int) :: R).set i w = (P ++ [w]) ++ R := by
      intro w
      rw [← hP, set_mid P _ _ R, List.append_assoc, List.singleton_append]
    have HRD := Aside0.mk hrd
    have HST := Aside0.mk hst
    clear hrd hst
    have E2 := Aside0.mk (wsucc i (by simp at hn; omega))
    have hin : i < n := by rw [hn]; simp
    have hpow : A + 4294967296 ^ i * VB 4294967296 ((x : Int) :: R) = (A + 4294967296 ^ i * x) + 4294967296 ^ (i + 1) * VB 4294967296 R := by
      simp only [VB, Int.toNat_natCast]
      rw [Nat.mul_add, Nat.pow_succ, Nat.mul_assoc, Nat.add_assoc]
    rw [hpow]
    have HPW := Aside0.mk hpow
    clear hpow
    by_cases hiv : i < v.length
    · have rv := WB_rd hv i hiv
      obtain ⟨y, hy⟩ := Int.eq_ofNat_of_zero_le rv.1
      rw [hy] at rv
      have hp : IntKind.u64.wrap (IntKind.u64.wrap ((c : Int) + IntKind.u64.wrap (x : Int)) + IntKind.u64.wrap (y : Int)) = ((c + x + y : Nat) : Int) := by
        rw [u64in (y : Int) (by omega) (by omega), u64in (x : Int) (by omega) (by omega), u64in ((c : Int) + (x : Int)) (by omega) (by omega), u64in ((c : Int) + (x : Int) + (y : Int)) (by omega) (by omega)]
        omega
      have HP := Aside0.mk hp
      clear hp
      have htk := VB_take_succ 4294967296 v i hiv
      rw [hy, Int.toNat_natCast] at htk
      have hstep : VB 4294967296 (P ++ [(((c + x + y) % 4294967296 : Nat) : Int)]) + 4294967296 ^ (i + 1) * ((c + x + y) / 4294967296) = A + 4294967296 ^ i * x + VB 4294967296 (v.take (i + 1)) := by
        rw [VB_snoc, hP, Int.toNat_natCast, carry_step, htk, Nat.mul_add, Nat.mul_add]
        have := h.out
        omega
      obtain ⟨z', c', g1, g2, g3, g5, g6⟩ := ih (P ++ [(((c + x + y) % 4294967296 : Nat) : Int)]) n (i + 1) ((c + x + y) / 4294967296) (A + 4294967296 ^ i * x) (by simp [hP]) (by rw [hn]; simp; omega) hb (WB_append.2 ⟨hWP, WB_cons.2 ⟨by omega, WB_nil _⟩⟩) hWR' (by omega) ⟨hstep⟩
      refine ⟨z', c', g1, g2, g3, g5, Ev.step (fun k => ?_) g6⟩
      show nat_back.l0 (k + 1) (P ++ (x : Int) :: R) v (c : Int) (n : Int) (i : Int) = _
      simp only [nat_back.l0]
      rw [if_pos (by omega), if_pos (by omega), if_pos (by omega), if_pos (by omega), HRD.out, hy, HP.out, ndiv32, nmod32, Int.toNat_natCast, HST.out, E2.out]
    · have hp : IntKind.u64.wrap ((c : Int) + IntKind.u64.wrap (x : Int)) = ((c + x : Nat) : Int) := by
        rw [u64in (x : Int) (by omega) (by omega), u64in ((c : Int) + (x : Int)) (by omega) (by omega)]
        omega
      have HP := Aside0.mk hp
      clear hp
      have htk : v.take (i + 1) = v.take i := by rw [List.take_of_length_le (by omega), List.take_of_length_le (by omega)]
      have hstep : VB 4294967296 (P ++ [(((c + x) % 4294967296 : Nat) : Int)]) + 4294967296 ^ (i + 1) * ((c + x) / 4294967296) = A + 4294967296 ^ i * x + VB 4294967296 (v.take (i + 1)) := by
        rw [VB_snoc, hP, Int.toNat_natCast, carry_step, htk, Nat.mul_add]
        have := h.out
        omega
      obtain ⟨z', c', g1, g2, g3, g5, g6⟩ := ih (P ++ [(((c + x) % 4294967296 : Nat) : Int)]) n (i + 1) ((c + x) / 4294967296) (A + 4294967296 ^ i * x) (by simp [hP]) (by rw [hn]; simp; omega) hb (WB_append.2 ⟨hWP, WB_cons.2 ⟨by omega, WB_nil _⟩⟩) hWR' (by omega) ⟨hstep⟩
      refine ⟨z', c', g1, g2, g3, g5, Ev.step (fun k => ?_) g6⟩
      show nat_back.l0 (k + 1) (P ++ (x : Int) :: R) v (c : Int) (n : Int) (i : Int) = _
      simp only [nat_back.l0]
      rw [if_pos (by omega), if_pos (by omega), if_pos (by omega), if_neg (by omega), HRD.out, HP.out, ndiv32, nmod32, Int.toNat_natCast, HST.out, E2.out]
theorem back_f (u v : List Int) (hu : WB 4294967296 u) (hv : WB 4294967296 v) (hl : v.length ≤ u.length) (hb : u.length < 35184372088832) :
    ∃ (z : List Int) (c : Nat), z.length = u.length ∧ WB 4294967296 z ∧ c ≤ 1 ∧ VB 4294967296 z + 4294967296 ^ u.length * c = VB 4294967296 u + VB 4294967296 v ∧
      Ev (fun k => nat_back.f k u v) z := by
  obtain ⟨z, c, h1, h2, h3, h5, h6⟩ := back_l0 v hv u [] u.length 0 0 0 rfl (by simp) hb (WB_nil _) hu (by omega) ⟨by simp [VB]⟩
  refine ⟨z, c, h1, h2, h3, ?_, h6⟩
  rw [List.take_of_length_le (l := v) (by omega)] at h5
  simpa using h5
end Go.Proofs.YtofklpmlgfbmlaaGreat.ZRatP
/- What the printed functions of nat come to, told of numbers: how many bits a word takes. -/
namespace Go.Proofs.YtofklpmlgfbmlaaGreat.ZRatP
open Go.RowKit Go.Proofs.YtofklpmlgfbmlaaGreat.Wd Go.Proofs.YtofklpmlgfbmlaaGreat.Num Go.Proofs.YtofklpmlgfbmlaaGreat.ZRat
set_option linter.unusedVariables false
set_option linter.unusedSimpArgs false

theorem len_small : ∀ n : Fin 256, bits_Len32.f ((n.val : Nat) : Int) = some ((if n.val = 0 then 0 else Nat.log2 n.val + 1 : Nat) : Int) := by decide +kernel
theorem len_mid (n : Nat) (h1 : 256 ≤ n) (h2 : n < 65536) (m : Nat) (h : bits_Len32.f ((n / 256 : Nat) : Int) = some (m : Int)) (hm : m ≤ 32) : bits_Len32.f (n : Int) = some ((m + 8 : Nat) : Int) := by
  unfold bits_Len32.f at h ⊢
  rw [if_neg (by omega), if_neg (by omega), if_pos (by omega), if_pos (by omega)] at h
  rw [if_neg (by omega), if_pos (by omega), if_pos (by omega), if_pos (by omega)]
  rw [show ((n / 256 : Nat) : Int) % 256 = ((n : Int) / 256) % 256 from by omega] at h
  generalize bt _ _ = y at h ⊢
  have h := Option.some.inj h
  congr 1
  unfold wrap64 at h ⊢
  omega
theorem len_big (n : Nat) (h1 : 65536 ≤ n) (h2 : n < 4294967296) (m : Nat) (h : bits_Len32.f ((n / 65536 : Nat) : Int) = some (m : Int)) (hm : m ≤ 32) : bits_Len32.f (n : Int) = some ((m + 16 : Nat) : Int) := by
  unfold bits_Len32.f at h ⊢
  rw [if_neg (by omega)] at h
  rw [if_pos (by omega)]
  by_cases h3 : 256 ≤ n / 65536
  · rw [if_pos (by omega), if_pos (by omega), if_pos (by omega)] at h
    rw [if_pos (by omega), if_pos (by omega), if_pos (by omega)]
    rw [show ((n / 65536 : Nat) : Int) / 256 % 256 = ((n : Int) / 65536) / 256 % 256 from by omega] at h
    generalize bt _ _ = y at h ⊢
    have h := Option.some.inj h
    congr 1
    unfold wrap64 at h ⊢
    omega
  · rw [if_neg (by omega), if_pos (by omega), if_pos (by omega)] at h
    rw [if_neg (by omega), if_pos (by omega), if_pos (by omega)]
    rw [show ((n / 65536 : Nat) : Int) % 256 = ((n : Int) / 65536) % 256 from by omega] at h
    generalize bt _ _ = y at h ⊢
    have h := Option.some.inj h
    congr 1
    unfold wrap64 at h ⊢
    omega
theorem len_one (n : Nat) (h0 : 0 < n) (h : n < 256) : ∃ L : Nat, 1 ≤ L ∧ L ≤ 8 ∧ 2 ^ (L - 1) ≤ n ∧ n < 2 ^ L ∧ bits_Len32.f (n : Int) = some (L : Int) := by
  have h1 := len_small ⟨n, h⟩
  simp only [show n ≠ 0 from by omega, if_false] at h1
  refine ⟨Nat.log2 n + 1, by omega, ?_, Nat.log2_self_le (by omega), Nat.lt_log2_self, h1⟩
  have : Nat.log2 n < 8 := (Nat.log2_lt (by omega)).2 (by omega)
  omega
theorem len_two (n : Nat) (h0 : 0 < n) (h : n < 65536) : ∃ L : Nat, 1 ≤ L ∧ L ≤ 16 ∧ 2 ^ (L - 1) ≤ n ∧ n < 2 ^ L ∧ bits_Len32.f (n : Int) = some (L : Int) := by
  rcases Nat.lt_or_ge n 256 with h1 | h1
  · obtain ⟨L, a, b, c, d, e⟩ := len_one n h0 h1
    exact ⟨L, a, by omega, c, d, e⟩
  · obtain ⟨L, a, b, c, d, e⟩ := len_one (n / 256) (by omega) (by omega)
    refine ⟨L + 8, by omega, by omega, ?_, ?_, len_mid n h1 h L e (by omega)⟩
    · rw [show L + 8 - 1 = (L - 1) + 8 from by omega, Nat.pow_add]
      omega
    · rw [Nat.pow_add]
      omega
theorem len_f (n : Nat) (h0 : 0 < n) (h : n < 4294967296) : ∃ L : Nat, 1 ≤ L ∧ L ≤ 32 ∧ 2 ^ (L - 1) ≤ n ∧ n < 2 ^ L ∧ bits_Len32.f (n : Int) = some (L : Int) := by
  rcases Nat.lt_or_ge n 65536 with h1 | h1
  · obtain ⟨L, a, b, c, d, e⟩ := len_two n h0 h1
    exact ⟨L, a, by omega, c, d, e⟩
  · obtain ⟨L, a, b, c, d, e⟩ := len_two (n / 65536) (by omega) (by omega)
    refine ⟨L + 16, by omega, by omega, ?_, ?_, len_big n h1 h L e (by omega)⟩
    · rw [show L + 16 - 1 = (L - 1) + 16 from by omega, Nat.pow_add]
      omega
    · rw [Nat.pow_add]
      omega
theorem zeros_f (n : Nat) (h0 : 0 < n) (h : n < 4294967296) : ∃ s : Nat, s < 32 ∧ 2147483648 ≤ n * 2 ^ s ∧ n * 2 ^ s < 4294967296 ∧ bits_LeadingZeros32.f (n : Int) = some (s : Int) := by
  obtain ⟨L, a, b, c, d, e⟩ := len_f n h0 h
  have h1 : 2 ^ (L - 1) * 2 ^ (32 - L) = 2147483648 := by
    rw [← Nat.pow_add, show L - 1 + (32 - L) = 31 from by omega]
  have h2 : 2 ^ L * 2 ^ (32 - L) = 4294967296 := by
    rw [← Nat.pow_add, show L + (32 - L) = 32 from by omega]
  refine ⟨32 - L, by omega, ?_, ?_, ?_⟩
  · rw [← h1]
    exact Nat.mul_le_mul_right _ c
  · rw [← h2]
    exact Nat.mul_lt_mul_of_pos_right d (Nat.two_pow_pos _)
  · unfold bits_LeadingZeros32.f
    rw [e, Option.bind_some, show (32 : Int) = ((32 : Nat) : Int) from rfl, wsub 32 L (by omega) b]
end Go.Proofs.YtofklpmlgfbmlaaGreat.ZRatP
/- What the printed functions of nat come to, told of numbers: long division. -/
namespace Go.Proofs.YtofklpmlgfbmlaaGreat.ZRatP
open Go.RowKit Go.Proofs.YtofklpmlgfbmlaaGreat.Wd Go.Proofs.YtofklpmlgfbmlaaGreat.Num Go.Proofs.YtofklpmlgfbmlaaGreat.ZRat
set_option linter.unusedVariables false
set_option linter.unusedSimpArgs false

theorem unshift_num (b s t x V : Nat) (hb : b = 2 ^ s * t) (hb0 : 0 < b) (hx : x < b) : (x + b * V) / 2 ^ s = (((V % b) * b + x) / 2 ^ s) % b + b * (V / 2 ^ s) := by
  have hp := Nat.two_pow_pos s
  have h1 := Nat.div_add_mod V b
  have h2 : x + b * V = ((V % b) * b + x) + 2 ^ s * (b * (t * (V / b))) := by
    have h3 : 2 ^ s * (b * (t * (V / b))) = b * (b * (V / b)) := by
      have : b * (b * (V / b)) = (2 ^ s * t) * (b * (V / b)) := by rw [← hb]
      rw [this]
      grind
    rw [h3]
    have h4 : b * V = b * (b * (V / b)) + (V % b) * b := by
      rw [Nat.mul_comm (V % b), ← Nat.mul_add, h1]
    omega
  have h5 : (x + b * V) / 2 ^ s / b = V / 2 ^ s := by
    rw [Nat.div_div_eq_div_mul, Nat.mul_comm (2 ^ s) b, ← Nat.div_div_eq_div_mul]
    congr 1
    rw [Nat.add_mul_div_left _ _ hb0, Nat.div_eq_of_lt hx, Nat.zero_add]
  have h6 : (x + b * V) / 2 ^ s % b = ((V % b) * b + x) / 2 ^ s % b := by
    rw [h2, Nat.add_mul_div_left _ _ hp, Nat.add_mul_mod_self_left]
  rw [← h6, ← h5]
  have h7 := Nat.div_add_mod ((x + b * V) / 2 ^ s) b
  rw [Nat.add_comm] at h7
  exact h7.symm
theorem low_same (c x V : Nat) : (c % 4294967296 * 4294967296 + x) % 4294967296 = (x + 4294967296 * V) % 4294967296 := by omega
theorem low_lt (c x : Nat) (hx : x < 4294967296) : c % 4294967296 * 4294967296 + x < 18446744073709551616 := by omega
theorem long_l1 (s : Nat) (hs : s < 32) (quo : List Int) (hquo : WB 4294967296 quo) (hlq : quo.length < 35184372088831) : ∀ (i : Nat) (a q : List Int) (V c : Nat), a.length = i → i + q.length < 35184372088831 → WB 4294967296 a → WB 4294967296 q →
    Aside0 (VB 4294967296 q = V / 2 ^ s) → c % 4294967296 = V % 4294967296 → c < 18446744073709551616 →
    Ev (fun k => nat_long.l1 k (s : Int) quo (a ++ q) (c : Int) ((i : Int) - 1)) (NB 4294967296 (VB 4294967296 quo), NB 4294967296 ((VB 4294967296 a + 4294967296 ^ i * V) / 2 ^ s)) := by
  intro i
  induction i with
  | zero =>
    intro a q V c ha hb hWa hWq hq hc hc2
    obtain rfl := List.length_eq_zero_iff.1 ha
    refine Ev.step (f := fun k => (nat_trim.f k quo).bind fun t214 => ((nat_trim.f k q).bind fun t217 => (some (t214, t217)))) (fun k => ?_) ?_
    · show nat_long.l1 (k + 1) (s : Int) quo ([] ++ q) (c : Int) _ = _
      simp only [nat_long.l1]
      rw [if_neg (by omega)]
      rfl
    · refine Ev.bind (trim_own_f quo hquo (by omega)) ?_
      refine Ev.congr (fun k => ?_) (Ev.bind (f := fun _ t => some (NB 4294967296 (VB 4294967296 quo), t)) (trim_own_f q hWq (by omega)) ?_)
      · rfl
      · rw [hq.out]
        simp only [VB, Nat.pow_zero, Nat.one_mul, Nat.zero_add]
        exact Ev.now _
  | succ i ih =>
    intro a q V c ha hb hWa hWq hq hc hc2
    rcases List.eq_nil_or_concat a with rfl | ⟨m, x, rfl⟩
    · simp at ha
    rw [List.concat_eq_append] at *
    have hm : m.length = i := by simpa using ha
    obtain ⟨hWm, hWx⟩ := WB_append.1 hWa
    have hx := (WB_cons.1 hWx).1
    obtain ⟨x, rfl⟩ := Int.eq_ofNat_of_zero_le hx.1
    have hpw : (4294967296 : Nat) = 2 ^ s * 2 ^ (32 - s) := by rw [← Nat.pow_add, show s + (32 - s) = 32 from by omega]
    have hnum := unshift_num 4294967296 s (2 ^ (32 - s)) x V hpw (by omega) (by omega)
    have hwr : IntKind.u64.wrap ((c : Int) * 4294967296) = IntKind.u64.wrap (((c % 4294967296 : Nat) : Int) * 4294967296) := by rw [u64w, u64w]; omega
    have ho := or32 (c % 4294967296) x (by omega) (by omega)
    have HO := Aside0.mk ho
    clear ho
    have hsr : shr .u64 (((c % 4294967296 * 4294967296 + x : Nat)) : Int) (s : Int) = (((c % 4294967296 * 4294967296 + x) / 2 ^ s : Nat) : Int) := by
      unfold shr
      rw [Int.toNat_natCast, show IntKind.u64.bits = 64 from rfl, Nat.min_eq_left (by omega)]
      simp
    have HSR := Aside0.mk hsr
    have HNUM := Aside0.mk hnum
    have HWR := Aside0.mk hwr
    clear hsr hnum hwr hpw
    have HP := Aside0.mk (wpred i (by omega))
    have hval : VB 4294967296 (m ++ [(x : Int)]) + 4294967296 ^ (i + 1) * V = VB 4294967296 m + 4294967296 ^ i * (x + 4294967296 * V) := by
      rw [VB_snoc, hm, Int.toNat_natCast, Nat.mul_add, Nat.pow_succ, Nat.mul_assoc, Nat.add_assoc]
    rw [hval]
    clear hval
    have hmod : (c % 4294967296 * 4294967296 + x) / 2 ^ s % 4294967296 < 4294967296 := Nat.mod_lt _ (by omega)
    have HMOD := Aside0.mk hmod
    clear hmod
    have hx2 : x < 4294967296 := by omega
    have hd : VB 4294967296 ((((c % 4294967296 * 4294967296 + x) / 2 ^ s % 4294967296 : Nat) : Int) :: q) = (x + 4294967296 * V) / 2 ^ s := by
      rw [HNUM.out, VB, hq.out, hc, Int.toNat_natCast]
    have hg := ih m ((((c % 4294967296 * 4294967296 + x) / 2 ^ s % 4294967296 : Nat) : Int) :: q) (x + 4294967296 * V) (c % 4294967296 * 4294967296 + x) hm (by rw [List.length_cons]; omega) hWm (WB_cons.2 ⟨⟨Int.natCast_nonneg _, Int.ofNat_lt.2 HMOD.out⟩, hWq⟩) ⟨hd⟩ (low_same c x V) (low_lt c x hx2)
    refine Ev.step (fun k => ?_) hg
    show nat_long.l1 (k + 1) (s : Int) quo (m ++ [(x : Int)] ++ q) (c : Int) _ = _
    rw [List.append_assoc, List.singleton_append]
    have hrd : rd (m ++ (x : Int) :: q) (i : Int) = (x : Int) := by rw [← hm]; exact rd_mid m _ q
    have hst : ∀ w : Int, (m ++ (x : Int) :: q).set i w = m ++ w :: q := by intro w; rw [← hm]; exact set_mid m _ _ q
    have hln : (m ++ (x : Int) :: q).length = i + 1 + q.length := by simp; omega
    have HRD := Aside0.mk hrd
    have HST := Aside0.mk hst
    clear hrd hst
    simp only [nat_long.l1]
    rw [show ((i + 1 : Nat) : Int) - 1 = (i : Int) from by omega, if_pos (by omega), if_pos (by omega), if_pos (by omega), if_pos (by omega), HRD.out, HWR.out, HO.out, HSR.out, HP.out, nmod32, Int.toNat_natCast, HST.out]
/-- One word of the quotient, by what off and back say. -/
theorem long_word (w V q z d M : Nat) (hV : 0 < V) (h1 : w / V ≤ q) (h2 : q ≤ w / V + 1) (hz : z < M) (hd : d ≤ 1) (h : z + q * V = w + M * d) :
    (d = 0 → q = w / V ∧ z = w % V) ∧ (d = 1 → q = w / V + 1 ∧ ∀ z' c', c' ≤ 1 → z' < M → z' + M * c' = z + V → z' = w % V) := by
  have hm := Nat.div_add_mod w V
  have hl := Nat.mod_lt w hV
  have hc : V * (w / V) = w / V * V := Nat.mul_comm _ _
  have hq : q = w / V ∨ q = w / V + 1 := by omega
  constructor
  · intro e
    rw [e, Nat.mul_zero] at h
    rcases hq with e | e
    · rw [e] at h
      exact ⟨e, by omega⟩
    · rw [e, Nat.add_mul, Nat.one_mul] at h
      omega
  · intro e
    rw [e, Nat.mul_one] at h
    rcases hq with e | e
    · rw [e] at h
      omega
    · rw [e, Nat.add_mul, Nat.one_mul] at h
      refine ⟨e, fun z' c' h3 h4 h5 => ?_⟩
      have : c' = 0 ∨ c' = 1 := by omega
      rcases this with e | e
      · subst e
        rw [Nat.mul_zero] at h5
        omega
      · subst e
        rw [Nat.mul_one] at h5
        omega
theorem long_sum (L X V w b W : Nat) : (L + W * w) + V * (W * b * X) = (L + W * (w % V)) + V * (W * ((w / V) + b * X)) := by
  have := Nat.div_add_mod w V
  have h2 : V * (W * (w / V + b * X)) = W * (V * (w / V)) + V * (W * b * X) := by grind
  have h3 : W * w = W * (V * (w / V)) + W * (w % V) := by rw [← Nat.mul_add, this]
  omega
end Go.Proofs.YtofklpmlgfbmlaaGreat.ZRatP
/- What the printed functions of nat come to, told of numbers: long division's main loop. -/
namespace Go.Proofs.YtofklpmlgfbmlaaGreat.ZRatP
open Go.RowKit Go.Proofs.YtofklpmlgfbmlaaGreat.Wd Go.Proofs.YtofklpmlgfbmlaaGreat.Num Go.Proofs.YtofklpmlgfbmlaaGreat.ZRat
set_option linter.unusedVariables false
set_option linter.unusedSimpArgs false

theorem win_mid (A Z C : List Int) (lo hi : Nat) (h1 : A.length = lo) (h2 : lo + Z.length = hi) : ((A ++ Z ++ C).take hi).drop lo = Z := by
  rw [List.take_append_of_le_length (by simp; omega), List.take_of_length_le (by simp; omega), ← h1, List.drop_left]
theorem win_lo (A Z C : List Int) (lo : Nat) (h1 : A.length = lo) : (A ++ Z ++ C).take lo = A := by
  rw [List.append_assoc, ← h1, List.take_left]
theorem win_hi (A Z C : List Int) (lo hi : Nat) (h1 : A.length = lo) (h2 : lo + Z.length = hi) : (A ++ Z ++ C).drop hi = C := by
  rw [show hi = (A ++ Z).length from by simp; omega, List.drop_left]
theorem win_eq (u : List Int) (lo hi : Nat) (h1 : lo ≤ hi) (h2 : hi ≤ u.length) : u = u.take lo ++ (u.take hi).drop lo ++ u.drop hi := by
  have h3 : u.take lo = (u.take hi).take lo := by rw [List.take_take, Nat.min_eq_left h1]
  rw [h3, List.take_append_drop, List.take_append_drop]
theorem offX_f (A w C v : List Int) (q lo hi : Nat) (h1 : A.length = lo) (h2 : lo + w.length = hi) (hw : WB 4294967296 w) (hv : WB 4294967296 v) (hq : q < 4294967296) (hl : v.length < w.length) (hb : w.length < 35184372088832) :
    ∃ (z : List Int) (d : Nat), z.length = w.length ∧ WB 4294967296 z ∧ d ≤ 1 ∧ VB 4294967296 z + q * VB 4294967296 v = VB 4294967296 w + 4294967296 ^ w.length * d ∧
      Ev (fun k => nat_offX.f k (A ++ w ++ C) (lo : Int) (hi : Int) v (q : Int)) ((d : Int) != 0, A ++ z ++ C) := by
  obtain ⟨z, d, g1, g2, g3, g4, g5⟩ := off_f w v q hw hv hq hl hb
  refine ⟨z, d, g1, g2, g3, g4, ?_⟩
  unfold nat_offX.f
  refine Ev.congr (fun k => ?_) (Ev.bind (f := fun _ b_ => if b_.2.length = (hi : Int).toNat - (lo : Int).toNat then some (b_.1, A ++ b_.2 ++ C) else none) g5 ?_)
  · rw [if_pos ⟨by omega, by omega, by simp; omega⟩, Int.toNat_natCast, Int.toNat_natCast, win_mid A w C lo hi h1 h2, win_lo A w C lo h1, win_hi A w C lo hi h1 h2]
  · dsimp only
    rw [if_pos (by rw [g1]; omega)]
    exact Ev.now _
theorem backX_f (A w C v : List Int) (lo hi : Nat) (h1 : A.length = lo) (h2 : lo + w.length = hi) (hw : WB 4294967296 w) (hv : WB 4294967296 v) (hl : v.length ≤ w.length) (hpos : 0 < w.length) (hb : w.length < 35184372088832) :
    ∃ (z : List Int) (c : Nat), z.length = w.length ∧ WB 4294967296 z ∧ c ≤ 1 ∧ VB 4294967296 z + 4294967296 ^ w.length * c = VB 4294967296 w + VB 4294967296 v ∧
      Ev (fun k => nat_backX.f k (A ++ w ++ C) (lo : Int) (hi : Int) v) (A ++ z ++ C) := by
  obtain ⟨z, c, g1, g2, g3, g4, g5⟩ := back_f w v hw hv hl hb
  refine ⟨z, c, g1, g2, g3, g4, ?_⟩
  unfold nat_backX.f
  refine Ev.congr (fun k => ?_) (Ev.bind (f := fun _ b_ => if b_.length = (hi : Int).toNat - (lo : Int).toNat then some (A ++ b_ ++ C) else none) g5 ?_)
  · rw [if_pos ⟨by omega, by omega, by simp; omega⟩, Int.toNat_natCast, Int.toNat_natCast, win_mid A w C lo hi h1 h2, win_lo A w C lo h1, win_hi A w C lo hi h1 h2]
  · rw [if_pos (by rw [g1]; omega)]
    exact Ev.now _
theorem digit_lt (b x T V : Nat) (hx : x < b) (h : T < V) : x + b * T < b * V := by
  have : b * (T + 1) ≤ b * V := Nat.mul_le_mul_left _ h
  rw [Nat.mul_add, Nat.mul_one] at this
  omega
theorem zero_above (b m L C V : Nat) (h : L + b ^ m * C < V) (hv : V < b ^ m) : C = 0 := by
  rcases Nat.eq_zero_or_pos C with h1 | h1
  · exact h1
  · have : b ^ m * 1 ≤ b ^ m * C := Nat.mul_le_mul_left _ h1
    rw [Nat.mul_one] at this
    omega
/-- The invariant, one word on: A is below, w the window, C the zeros above, X the quotient's words that stand. -/
theorem long_next (A w z C : List Int) (i m U0 V X : Nat) (hA : A.length = i) (hw : w.length = m + 1) (hz : z.length = m + 1) (hC : VB 4294967296 C = 0) (hzv : VB 4294967296 z = VB 4294967296 w % V)
    (h : U0 = VB 4294967296 (A ++ w ++ C) + V * (4294967296 ^ (i + 1) * X)) : U0 = VB 4294967296 (A ++ z ++ C) + V * (4294967296 ^ i * (VB 4294967296 w / V + 4294967296 * X)) ∧ VB 4294967296 ((A ++ z ++ C).drop i) = VB 4294967296 w % V := by
  constructor
  · rw [h, VB_append, VB_append, VB_append, VB_append, hC, hA, hzv, Nat.mul_zero, Nat.mul_zero, Nat.add_zero, Nat.add_zero, Nat.pow_succ]
    exact long_sum _ _ _ _ _ _
  · rw [List.append_assoc, ← hA, List.drop_left, VB_append, hC, hzv, Nat.mul_zero, Nat.add_zero]
theorem quo_next (quo : List Int) (i Q : Nat) (h : i < quo.length) : VB 4294967296 ((quo.set i (Q : Int)).drop i) = Q + 4294967296 * VB 4294967296 (quo.drop (i + 1)) := by
  rw [VB_drop_rd _ _ i (by simpa using h), rd_set _ _ _ _ h, if_pos rfl, Int.toNat_natCast]
  congr 3
  rw [List.drop_set_of_lt (by omega)]
theorem long_l0 (s : Nat) (hs : s < 32) (v : List Int) (m : Nat) (hm : 2 ≤ m) (hv : v.length = m) (hWv : WB 4294967296 v) (top next : Nat) (ht : rd v ((m - 1 : Nat) : Int) = (top : Int)) (hn : rd v ((m - 2 : Nat) : Int) = (next : Int)) (ht1 : 2147483648 ≤ top)
    (L : Nat) (hL : L + m < 35184372088831) : ∀ (r : Nat) (u quo : List Int) (U0 : Nat), r ≤ L → u.length = L + m → quo.length = L → WB 4294967296 u → WB 4294967296 quo → Aside0 (VB 4294967296 (u.drop r) < VB 4294967296 v) →
      Aside0 (U0 = VB 4294967296 u + VB 4294967296 v * (4294967296 ^ r * VB 4294967296 (quo.drop r))) →
      Ev (fun k => nat_long.l0 k (s : Int) u v (m : Int) quo (top : Int) (next : Int) ((r : Int) - 1)) (NB 4294967296 (U0 / VB 4294967296 v), NB 4294967296 (U0 % VB 4294967296 v / 2 ^ s)) := by
  intro r
  induction r with
  | zero =>
    intro u quo U0 hr hu hq hWu hWq hlt he
    have hlt' := hlt.out
    have he' := he.out
    rw [List.drop_zero] at hlt' he'
    rw [Nat.pow_zero, Nat.one_mul, Nat.add_comm] at he'
    have hV : 0 < VB 4294967296 v := Nat.lt_of_le_of_lt (Nat.zero_le _) hlt'
    have e1 : U0 / VB 4294967296 v = VB 4294967296 quo := by rw [he', Nat.mul_add_div hV, Nat.div_eq_of_lt hlt', Nat.add_zero]
    have e2 : U0 % VB 4294967296 v = VB 4294967296 u := by rw [he', Nat.mul_add_mod, Nat.mod_eq_of_lt hlt']
    rw [e1, e2]
    clear e1 e2 he' hV hlt'
    have hN := NBV_len (b := 4294967296) (by omega) hWu
    have h1 := long_l1 s hs quo hWq (by omega) _ (NB 4294967296 (VB 4294967296 u)) [] 0 0 rfl (by rw [List.length_nil]; omega) (WB_NB _ _) (WB_nil _) ⟨by rw [Nat.zero_div]; rfl⟩ rfl (by omega)
    rw [VB_NB (by omega), Nat.mul_zero, Nat.add_zero, List.append_nil] at h1
    refine Ev.step (f := fun k => (nat_trim.f k u).bind fun t209 => (nat_long.l1 k (s : Int) quo t209 0 (wrap64 ((t209.length : Int) - 1)))) (fun k => ?_) ?_
    · show nat_long.l0 (k + 1) _ _ _ _ _ _ _ _ = _
      simp only [nat_long.l0]
      rw [if_neg (by omega)]
    · refine Ev.bind (trim_own_f u hWu (by omega)) (Ev.congr (fun k => ?_) h1)
      rw [wpred _ (by omega)]
      rfl
  | succ i ih =>
    intro u quo U0 hr hu hq hWu hWq hlt he
    -- the window
    have hsp := win_eq u i (i + m + 1) (by omega) (by omega)
    have hlA : (u.take i).length = i := by rw [List.length_take]; omega
    have hlw : ((u.take (i + m + 1)).drop i).length = m + 1 := by rw [List.length_drop, List.length_take]; omega
    have hWA := WB_take hWu i
    have hWw := WB_drop (WB_take hWu (i + m + 1)) i
    have hWC := WB_drop hWu (i + m + 1)
    generalize u.take i = A at *
    generalize (u.take (i + m + 1)).drop i = w at *
    generalize u.drop (i + m + 1) = C at *
    subst hsp
    have hVm := VB_lt (by omega) hWv
    rw [hv] at hVm
    obtain ⟨x, w', rfl⟩ : ∃ x w', w = x :: w' := by
      cases w with
      | nil => simp at hlw
      | cons x w' => exact ⟨x, w', rfl⟩
    obtain ⟨hx, hWw'⟩ := WB_cons.1 hWw
    have hlw' : w'.length = m := by simpa using hlw
    have hdr : (A ++ x :: w' ++ C).drop (i + 1) = w' ++ C := by
      rw [show A ++ x :: w' ++ C = (A ++ [x]) ++ (w' ++ C) from by simp, show i + 1 = (A ++ [x]).length from by simp [hlA], List.drop_left]
    have hlt1 := hlt.out
    rw [hdr, VB_append, hlw'] at hlt1
    have hC : VB 4294967296 C = 0 := zero_above _ _ _ _ _ hlt1 hVm
    rw [hC, Nat.mul_zero, Nat.add_zero] at hlt1
    have hwlt : VB 4294967296 (x :: w') < 4294967296 * VB 4294967296 v := by
      rw [VB]
      exact digit_lt _ _ _ _ (by omega) hlt1
    have hV : 0 < VB 4294967296 v := Nat.lt_of_le_of_lt (Nat.zero_le _) hlt1
    have HV := Aside0.mk hV
    have HLT := Aside0.mk hwlt
    have HC := Aside0.mk hC
    clear hlt hlt1 hVm hC hwlt hV hdr
    generalize hw : x :: w' = w at *
    clear hw hx hWw' hlw'
    obtain ⟨q, hq1, hq2, hq3, hg⟩ := guess_f w v m hm (by omega) hlw hv hWw hWv top next ht hn ht1 HLT
    obtain ⟨z, d, hz1, hz2, hd, hz3, ho⟩ := offX_f A w C v q i (i + m + 1) hlA (by omega) hWw hWv hq1 (by omega) (by omega)
    have hzM := VB_lt (by omega) hz2
    rw [hz1] at hzM
    have hword := long_word _ _ q _ d _ HV.out hq2 hq3 hzM hd hz3
    have hQ : VB 4294967296 w / VB 4294967296 v < 4294967296 := by omega
    have HQ2 := Aside0.mk hq2
    have HQ3 := Aside0.mk hq3
    have HW := Aside0.mk hword
    have HQ := Aside0.mk hQ
    clear hq2 hq3 hword hz3 hzM hQ
    have HE1 : Aside0 (wrap64 (wrap64 ((i : Int) + (m : Int)) + 1) = ((i + m + 1 : Nat) : Int)) := ⟨by rw [wadd i m (by omega), wsucc _ (by omega)]⟩
    have HE2 := Aside0.mk (wpred i (by omega))
    have hlu : (A ++ w ++ C).length = L + m := hu
    have hmid := win_mid A w C i (i + m + 1) hlA (by omega)
    have hWset : WB 4294967296 (quo.set i ((VB 4294967296 w / VB 4294967296 v : Nat) : Int)) := WB_set hWq i _ (Int.natCast_nonneg _) (Int.ofNat_lt.2 HQ.out)
    have HQN := Aside0.mk (quo_next quo i (VB 4294967296 w / VB 4294967296 v) (by omega))
    have hlset : (quo.set i ((VB 4294967296 w / VB 4294967296 v : Nat) : Int)).length = L := by rw [List.length_set]; exact hq
    -- what follows, the window's rest being known
    have next' : ∀ z' : List Int, z'.length = m + 1 → WB 4294967296 z' → VB 4294967296 z' = VB 4294967296 w % VB 4294967296 v →
        Ev (fun k => nat_long.l0 k (s : Int) (A ++ z' ++ C) v (m : Int) (quo.set i ((VB 4294967296 w / VB 4294967296 v : Nat) : Int)) (top : Int) (next : Int) ((i : Int) - 1)) (NB 4294967296 (U0 / VB 4294967296 v), NB 4294967296 (U0 % VB 4294967296 v / 2 ^ s)) := by
      intro z' a1 a2 a3
      obtain ⟨b1, b2⟩ := long_next A w z' C i m U0 _ _ hlA hlw a1 HC.out a3 he.out
      refine ih (A ++ z' ++ C) _ U0 (by omega) ?_ hlset (WB_append.2 ⟨WB_append.2 ⟨hWA, a2⟩, hWC⟩) hWset ⟨?_⟩ ⟨?_⟩
      · rw [List.length_append, List.length_append] at hlu ⊢
        omega
      · rw [b2]
        exact Nat.mod_lt _ HV.out
      · rw [HQN.out]
        exact b1
    have hstep : ∀ k, nat_long.l0 (k + 1) (s : Int) (A ++ w ++ C) v (m : Int) quo (top : Int) (next : Int) (((i + 1 : Nat) : Int) - 1) = (nat_guess.f k w (top : Int) (next : Int)).bind fun t203 => ((nat_offX.f k (A ++ w ++ C) (i : Int) ((i + m + 1 : Nat) : Int) v t203).bind fun bt204 => (if bt204.1 = true then ((nat_backX.f k bt204.2 (i : Int) ((i + m + 1 : Nat) : Int) v).bind fun t206 => (if (i : Int) < (quo.length : Int) then (nat_long.l0 k (s : Int) t206 v (m : Int) (quo.set (i : Int).toNat ((IntKind.u64.wrap (t203 - 1)) % 4294967296)) (top : Int) (next : Int) (wrap64 ((i : Int) - 1))) else (none))) else (if (i : Int) < (quo.length : Int) then (nat_long.l0 k (s : Int) bt204.2 v (m : Int) (quo.set (i : Int).toNat ((t203) % 4294967296)) (top : Int) (next : Int) (wrap64 ((i : Int) - 1))) else (none)))) := by
      intro k
      simp only [nat_long.l0]
      rw [show ((i + 1 : Nat) : Int) - 1 = (i : Int) from by omega, if_pos (by omega), if_pos (by omega), HE1.out, if_pos (by omega), if_pos (by omega), Int.toNat_natCast, Int.toNat_natCast, hmid]
    refine Ev.step hstep ?_
    refine Ev.bind hg (Ev.bind ho ?_)
    have hd' : d = 0 ∨ d = 1 := by omega
    rcases hd' with e | e
    · obtain ⟨c1, c2⟩ := HW.out.1 e
      have HC1 := Aside0.mk c1
      clear c1
      refine Ev.congr (fun k => ?_) (next' z (by omega) hz2 c2)
      rw [e, if_neg (show ¬ ((((0 : Nat) : Int) != 0) = true) from by decide), if_pos (by omega), HE2.out, Int.toNat_natCast, nmod32, Nat.mod_eq_of_lt hq1, HC1.out]
    · obtain ⟨c1, c2⟩ := HW.out.2 e
      obtain ⟨z', c', y1, y2, y3, y4, y5⟩ := backX_f A z C v i (i + m + 1) hlA (by omega) hz2 hWv (by omega) (by omega) (by omega)
      have hzM := VB_lt (by omega) y2
      rw [y1, hz1] at hzM
      rw [hz1] at y4
      have c3 := c2 _ c' y3 hzM y4
      have HC1 := Aside0.mk c1
      clear c1 c2 y4 hzM
      refine Ev.congr (fun k => ?_) (Ev.bind (f := fun k t206 => nat_long.l0 k (s : Int) t206 v (m : Int) (quo.set i ((VB 4294967296 w / VB 4294967296 v : Nat) : Int)) (top : Int) (next : Int) ((i : Int) - 1)) y5 (next' z' (by omega) y2 c3))
      have hq0 : 0 < q := by rw [HC1.out]; exact Nat.succ_pos _
      have hd1 : (IntKind.u64.wrap ((q : Int) - 1)) % 4294967296 = ((q - 1 : Nat) : Int) := by rw [u64in _ (by omega) (by omega)]; omega
      have hd2 : q - 1 = VB 4294967296 w / VB 4294967296 v := by rw [HC1.out]; rfl
      rw [e, if_pos (show (((1 : Nat) : Int) != 0) = true from by decide)]
      congr 1
      funext t206
      rw [if_pos (by omega), HE2.out, Int.toNat_natCast, hd1, hd2]
end Go.Proofs.YtofklpmlgfbmlaaGreat.ZRatP
/- What the printed functions of nat come to, told of numbers: division. -/
namespace Go.Proofs.YtofklpmlgfbmlaaGreat.ZRatP
open Go.RowKit Go.Proofs.YtofklpmlgfbmlaaGreat.Wd Go.Proofs.YtofklpmlgfbmlaaGreat.Num Go.Proofs.YtofklpmlgfbmlaaGreat.ZRat
set_option linter.unusedVariables false
set_option linter.unusedSimpArgs false

/-- A canonical list's number has its highest word. -/
theorem top_word (b : Nat) (hb : 2 ≤ b) (v : List Int) (m : Nat) (hW : WB b v) (hl : v.length = m + 1) : VB b v = VB b (v.take m) + b ^ m * (rd v (m : Int)).toNat ∧ VB b (v.take m) < b ^ m := by
  constructor
  · rw [VB_split b v m (by omega), VB_drop_rd _ _ m (by omega), List.drop_of_length_le (by omega)]
    simp [VB]
  · have := VB_lt hb (WB_take hW m)
    rw [List.length_take, Nat.min_eq_left (by omega)] at this
    exact this
theorem top_pos (b : Nat) (hb : 2 ≤ b) (n m : Nat) (hl : (NB b n).length = m + 1) : 0 < (rd (NB b n) (m : Int)).toNat := by
  obtain ⟨h1, h2⟩ := top_word b hb (NB b n) m (WB_NB _ _) hl
  rcases Nat.eq_zero_or_pos (rd (NB b n) (m : Int)).toNat with h | h
  · rw [h, Nat.mul_zero, Nat.add_zero, VB_NB hb] at h1
    have := NB_length_le hb n m (by rw [h1]; exact h2)
    omega
  · exact h
theorem norm_len (b S c t m T : Nat) (hS : 0 < S) (hc : b = S * c) (h2 : t * S < b) (hT : T < b ^ m) : S * (T + b ^ m * t) < b ^ (m + 1) ∧ b ^ m * (t * S) ≤ S * (T + b ^ m * t) := by
  have e : S * (T + b ^ m * t) = S * T + b ^ m * (t * S) := by grind
  constructor
  · have h1 : t < c := by
      rcases Nat.lt_or_ge t c with h | h
      · exact h
      · have : S * c ≤ S * t := Nat.mul_le_mul_left _ h
        rw [← hc, Nat.mul_comm] at this
        omega
    have h3 : S * (T + b ^ m * t) < S * (b ^ m * (t + 1)) := Nat.mul_lt_mul_of_pos_left (by rw [Nat.mul_add]; omega) hS
    have h4 : S * (b ^ m * (t + 1)) ≤ b ^ (m + 1) := by
      have h5 : b ^ m * (S * (t + 1)) ≤ b ^ m * b := Nat.mul_le_mul_left _ (by rw [hc]; exact Nat.mul_le_mul_left _ h1)
      rw [Nat.pow_succ]
      have : S * (b ^ m * (t + 1)) = b ^ m * (S * (t + 1)) := by grind
      omega
    omega
  · rw [e]
    omega
theorem norm_top (b V T m top q : Nat) (hV : V = T + b ^ m * top) (hT : T < b ^ m) (h : b ^ m * q ≤ V) : q ≤ top := by
  rcases Nat.lt_or_ge top q with h1 | h1
  · have : b ^ m * (top + 1) ≤ b ^ m * q := Nat.mul_le_mul_left _ h1
    rw [Nat.mul_add] at this
    omega
  · exact h1
theorem norm_first (b S A X T m L : Nat) (hb : 0 < b) (hS : 0 < S) (hA : A < b ^ (m + L)) (h : S * A = T + b ^ L * X) : X < S * b ^ m := by
  rcases Nat.lt_or_ge X (S * b ^ m) with h1 | h1
  · exact h1
  · have h2 : b ^ L * (S * b ^ m) ≤ b ^ L * X := Nat.mul_le_mul_left _ h1
    have h3 : S * A < S * b ^ (m + L) := Nat.mul_lt_mul_of_pos_left hA hS
    have h4 : S * b ^ (m + L) = b ^ L * (S * b ^ m) := by rw [Nat.pow_add]; grind
    omega
theorem long_f (a : List Int) (n : Nat) (m : Nat) (ha : WB 4294967296 a) (la : a.length < 35184372088830) (hm : 1 ≤ m) (hl : (NB 4294967296 n).length = m + 1) (hma : m + 1 ≤ a.length) :
    Ev (fun k => nat_long.f k a (NB 4294967296 n)) (NB 4294967296 (VB 4294967296 a / n), NB 4294967296 (VB 4294967296 a % n)) := by
  have hWb := WB_NB 4294967296 n
  have hVb := VB_NB (b := 4294967296) (by omega) n
  have htp := top_pos 4294967296 (by omega) n m hl
  obtain ⟨hv1, hv2⟩ := top_word 4294967296 (by omega) _ m hWb hl
  have rt := WB_rd hWb m (by omega)
  rw [hVb] at hv1
  have hHV := Aside0.mk hVb
  clear hVb
  generalize hbb : NB 4294967296 n = b at *
  generalize hT : VB 4294967296 (b.take m) = T at *
  obtain ⟨t, htt⟩ := Int.eq_ofNat_of_zero_le rt.1
  rw [htt] at rt htp hv1
  rw [Int.toNat_natCast] at htp hv1
  have HV1 := Aside0.mk hv1
  have HV2 := Aside0.mk hv2
  clear hv1 hv2 hT
  obtain ⟨s, hs, hs1, hs2, hz⟩ := zeros_f t htp (by omega)
  obtain ⟨u, hu1, hu2, hu3, hu4⟩ := shift_f a s hs ha (by omega)
  obtain ⟨w, hw1, hw2, hw3, hw4⟩ := shift_f b s hs hWb (by omega)
  rw [hHV.out] at hw3
  have hS := Nat.two_pow_pos s
  have hSc : (4294967296 : Nat) = 2 ^ s * 2 ^ (32 - s) := by rw [← Nat.pow_add, show s + (32 - s) = 32 from by omega]
  have HSC := Aside0.mk hSc
  clear hSc
  have HU3 := Aside0.mk hu3
  have HW3 := Aside0.mk hw3
  clear hu3 hw3
  obtain ⟨S, hSS⟩ : ∃ S : Nat, S = 2 ^ s := ⟨_, rfl⟩
  rw [← hSS] at hS HSC HU3 HW3 hs1 hs2
  have HSS := Aside0.mk hSS
  clear hSS
  obtain ⟨hn1, hn2⟩ := norm_len 4294967296 S _ t m T hS HSC.out hs2 HV2.out
  rw [← HV1.out] at hn1 hn2
  have hn3 : 4294967296 ^ m ≤ n := by
    rw [HV1.out]
    have : 4294967296 ^ m * 1 ≤ 4294967296 ^ m * t := Nat.mul_le_mul_left _ htp
    rw [Nat.mul_one] at this
    exact Nat.le_trans this (Nat.le_add_left _ _)
  have hn4 : S * 4294967296 ^ m ≤ S * n := Nat.mul_le_mul_left _ hn3
  have hn5 : 0 < n := Nat.lt_of_lt_of_le (Nat.pow_pos (by decide)) hn3
  have hn6 : 4294967296 ^ m ≤ S * n := Nat.le_trans hn3 (Nat.le_mul_of_pos_left _ hS)
  have HN1 := Aside0.mk hn1
  have HN2 := Aside0.mk hn2
  have HN4 := Aside0.mk hn4
  have HN6 := Aside0.mk hn6
  clear hn1 hn2 hn3 hn4 hn6
  -- the divisor, shifted
  have hlv1 := NB_length_le (b := 4294967296) (by omega) _ _ HN1.out
  have hlv2 := NB_length_gt (b := 4294967296) (by omega) _ _ HN6.out
  have hWv := WB_NB 4294967296 (S * n)
  have hVv := VB_NB (b := 4294967296) (by omega) (S * n)
  have hto := trim_own_f w hw2 (by omega)
  rw [HW3.out] at hto
  have hlv : (NB 4294967296 (S * n)).length = m + 1 := by omega
  clear hlv1 hlv2
  generalize NB 4294967296 (S * n) = v at *
  obtain ⟨g1, g2⟩ := top_word 4294967296 (by omega) v m hWv hlv
  rw [hVv] at g1
  have r0 := WB_rd hWv m (by omega)
  have r1 := WB_rd hWv (m - 1) (by omega)
  obtain ⟨top, htop⟩ := Int.eq_ofNat_of_zero_le r0.1
  obtain ⟨next, hnext⟩ := Int.eq_ofNat_of_zero_le r1.1
  rw [htop] at r0 g1
  rw [hnext] at r1
  rw [Int.toNat_natCast] at g1
  have htop1 : 2147483648 ≤ top := Nat.le_trans hs1 (norm_top _ _ _ m top _ g1 g2 HN2.out)
  clear g1 g2
  have hVb2 := VB_lt (by omega) ha
  have hsp := VB_split 4294967296 u (a.length - m) (by omega)
  rw [HU3.out] at hsp
  have hfirst := norm_first 4294967296 S _ _ _ m (a.length - m) (by omega) hS (by rw [show m + (a.length - m) = a.length from by omega]; exact hVb2) hsp
  have HF := Aside0.mk (Nat.lt_of_lt_of_le hfirst HN4.out)
  clear hVb2 hsp hfirst
  have HVV := Aside0.mk hVv
  clear hVv
  have hgo := long_l0 s hs v (m + 1) (by omega) hlv hWv top next (by rw [Nat.add_sub_cancel]; exact htop) (by rw [show m + 1 - 2 = m - 1 from by omega]; exact hnext) htop1 (a.length - m) (by omega) (a.length - m) u (List.replicate (a.length - m) 0) (S * VB 4294967296 a) (Nat.le_refl _) (by omega) (by simp) hu2 (WB_rep _ _ (by omega)) ⟨by rw [HVV.out]; exact HF.out⟩ ⟨by rw [List.drop_of_length_le (by simp), HU3.out, VB, Nat.mul_zero, Nat.mul_zero, Nat.add_zero]⟩
  rw [HVV.out, Nat.mul_div_mul_left _ _ hS, Nat.mul_mod_mul_left, ← HSS.out, Nat.mul_div_cancel_left _ hS] at hgo
  have E1 := Aside0.mk (show wrap64 ((b.length : Int) - 1) = (m : Int) from by rw [hl, wpred _ (by omega)]; omega)
  have E2 := Aside0.mk (show wrap64 ((v.length : Int) - 1) = (m : Int) from by rw [hlv, wpred _ (by omega)]; omega)
  have E3 := Aside0.mk (show wrap64 ((v.length : Int) - 2) = ((m - 1 : Nat) : Int) from by rw [hlv, w64in _ (by omega) (by omega)]; omega)
  have E4 := Aside0.mk (show wrap64 ((u.length : Int) - (v.length : Int)) = ((a.length - m : Nat) : Int) from by rw [hlv, hu1, wsub _ _ (by omega) (by omega)]; omega)
  refine Ev.congr (fun k => ?c) (Ev.bind (f := ?F) hu4 ?d)
  case c =>
    unfold nat_long.f
    rw [E1.out, if_pos (by omega), if_pos (by omega), htt, hz, Option.bind_some]
  case d =>
    refine Ev.bind hw4 ?_
    refine Ev.bind hto ?_
    refine Ev.congr (fun k => ?_) hgo
    rw [E2.out, E3.out, E4.out, if_pos (by omega), Int.toNat_natCast, if_pos (by omega), Option.bind_some, if_pos (by omega), if_pos (by omega), if_pos (by omega), if_pos (by omega), htop, hnext, u64in (top : Int) (by omega) (by omega), u64in (next : Int) (by omega) (by omega), List.length_replicate, wpred _ (by omega), hlv]
/-- Division; the divisor is trimmed, and not 0. -/
theorem divmod_f (a : List Int) (n : Nat) (hn : 0 < n) (ha : WB 4294967296 a) (la : a.length < 35184372088830) (ln : (NB 4294967296 n).length < 35184372088830) (hc : NB 4294967296 (VB 4294967296 a) = a) :
    Ev (fun k => nat_divmod.f k a (NB 4294967296 n)) (NB 4294967296 (VB 4294967296 a / n), NB 4294967296 (VB 4294967296 a % n)) := by
  unfold nat_divmod.f
  have h1 := cmp_f a (NB 4294967296 n) ha (WB_NB _ _) (by omega) (by omega)
  rw [VB_NB (by omega)] at h1
  refine Ev.bind h1 ?_
  unfold cmpN
  by_cases h : VB 4294967296 a < n
  · rw [if_pos h, Nat.div_eq_of_lt h, Nat.mod_eq_of_lt h, NB_zero, hc]
    refine Ev.congr (fun k => ?_) (Ev.now _)
    rw [if_pos (by omega), clone_f a (by omega)]
    rfl
  · rw [if_neg h]
    have h0 : (NB 4294967296 n).length ≠ 0 := fun e => by
      have := (NB_len0 (b := 4294967296) (by omega) n).1 e
      omega
    have hne : ¬ ((if n < VB 4294967296 a then (1 : Int) else 0) < 0) := by split <;> omega
    by_cases h2 : (NB 4294967296 n).length = 1
    · have hn2 := NB_lt_length (b := 4294967296) (by omega) n
      rw [h2, Nat.pow_one] at hn2
      have hnn : NB 4294967296 n = [(n : Int)] := by
        rw [NB_pos (by omega) hn, Nat.mod_eq_of_lt hn2, Nat.div_eq_of_lt hn2, NB_zero]
      obtain ⟨z, z1, z2, z3, z4⟩ := short_f a n hn hn2 ha (by omega)
      have t1 := trim_own_f z z2 (by omega)
      rw [z3] at t1
      have hml := Nat.mod_lt (VB 4294967296 a) hn
      have t2 := trim_own_f [((VB 4294967296 a % n : Nat) : Int)] (WB_cons.2 ⟨⟨Int.natCast_nonneg _, Int.ofNat_lt.2 (Nat.lt_trans hml hn2)⟩, WB_nil _⟩) (by simp)
      rw [VB, VB, Nat.mul_zero, Nat.add_zero, Int.toNat_natCast] at t2
      refine Ev.congr (fun k => ?c) (Ev.bind (f := ?F) z4 ?d)
      case c =>
        rw [if_neg hne, if_pos (by omega), clone_f a (by omega), Option.bind_some, if_pos (by omega), hnn]
        exact rfl
      case d =>
        refine Ev.bind t1 ?_
        refine Ev.bind t2 ?_
        exact Ev.now _
    · have hlen : (NB 4294967296 n).length ≤ a.length := by
        rw [← hc]
        exact NB_length_mono (by omega) (by omega)
      have hlg := long_f a n ((NB 4294967296 n).length - 1) ha la (by omega) (by omega) (by omega)
      refine Ev.congr (fun k => ?c2) (Ev.bind (f := ?F2) hlg ?d2)
      case c2 =>
        rw [if_neg hne, if_neg (by omega)]
      case d2 => exact Ev.now _
theorem DivMod_f (a b : List Int) (ha : WB 4294967296 a) (hb : WB 4294967296 b) (la : a.length < 35184372088830) (lb : b.length < 35184372088830) :
    Ev (fun k => nat_DivMod.f k a b) (if VB 4294967296 b = 0 then ([], [], 3) else (NB 4294967296 (VB 4294967296 a / VB 4294967296 b), NB 4294967296 (VB 4294967296 a % VB 4294967296 b), 0)) := by
  unfold nat_DivMod.f
  have l1 := NBV_len (b := 4294967296) (by omega) ha
  have l2 := NBV_len (b := 4294967296) (by omega) hb
  refine Ev.bind (trim_f a ha (by omega)) ?_
  refine Ev.bind (trim_f b hb (by omega)) ?_
  generalize VB 4294967296 a = m at *
  generalize VB 4294967296 b = n at *
  by_cases h : n = 0
  · subst h
    rw [if_pos rfl]
    refine Ev.congr (fun k => ?_) (Ev.now _)
    rw [NB_zero, if_pos (by simp)]
  · rw [if_neg h]
    have h0 : (NB 4294967296 n).length ≠ 0 := fun e => h ((NB_len0 (b := 4294967296) (by omega) n).1 e)
    have hd := divmod_f (NB 4294967296 m) n (by omega) (WB_NB _ _) (by omega) (by omega) (by rw [VB_NB (by omega)])
    rw [VB_NB (by omega)] at hd
    refine Ev.congr (fun k => ?c) (Ev.bind (f := ?F) hd ?d)
    case c => rw [if_neg (by omega)]
    case d => exact Ev.now _
end Go.Proofs.YtofklpmlgfbmlaaGreat.ZRatP
/- What the printed functions of nat come to, told of numbers: gcd. -/
namespace Go.Proofs.YtofklpmlgfbmlaaGreat.ZRatP
open Go.RowKit Go.Proofs.YtofklpmlgfbmlaaGreat.Wd Go.Proofs.YtofklpmlgfbmlaaGreat.Num Go.Proofs.YtofklpmlgfbmlaaGreat.ZRat
set_option linter.unusedVariables false
set_option linter.unusedSimpArgs false

theorem Gcd_l0 : ∀ (j m n : Nat), n < j → (NB 4294967296 m).length < 35184372088830 → (NB 4294967296 n).length < 35184372088830 →
    Ev (fun k => nat_Gcd.l0 k (NB 4294967296 m) (NB 4294967296 n)) (NB 4294967296 (Nat.gcd m n)) := by
  intro j
  induction j with
  | zero => intro m n h; omega
  | succ j ih =>
    intro m n h lm ln
    rcases Nat.eq_zero_or_pos n with h0 | h0
    · subst h0
      rw [Nat.gcd_zero_right]
      refine Ev.step (f := fun _ => some (NB 4294967296 m)) (fun k => ?_) (Ev.now _)
      show nat_Gcd.l0 (k + 1) _ _ = _
      simp only [nat_Gcd.l0]
      rw [NB_zero, if_neg (by simp)]
    · have hne : (NB 4294967296 n).length ≠ 0 := fun e => by
        have := (NB_len0 (b := 4294967296) (by omega) n).1 e
        omega
      have h1 := divmod_f (NB 4294967296 m) n h0 (WB_NB _ _) lm ln (by rw [VB_NB (by omega)])
      rw [VB_NB (by omega)] at h1
      have hml := Nat.mod_lt m h0
      have hll : (NB 4294967296 (m % n)).length ≤ (NB 4294967296 n).length := NB_length_mono (by omega) (by omega)
      rw [Nat.gcd_comm, Nat.gcd_rec, Nat.gcd_comm]
      refine Ev.step (fun k => ?c) (Ev.bind (f := ?F) h1 ?d)
      case c =>
        show nat_Gcd.l0 (k + 1) _ _ = _
        simp only [nat_Gcd.l0]
        rw [if_pos (by omega)]
      case d =>
        exact ih n (m % n) (by omega) ln (by omega)
theorem Gcd_f (a b : List Int) (ha : WB 4294967296 a) (hb : WB 4294967296 b) (la : a.length < 35184372088830) (lb : b.length < 35184372088830) :
    Ev (fun k => nat_Gcd.f k a b) (NB 4294967296 (Nat.gcd (VB 4294967296 a) (VB 4294967296 b))) := by
  unfold nat_Gcd.f
  have l1 := NBV_len (b := 4294967296) (by omega) ha
  have l2 := NBV_len (b := 4294967296) (by omega) hb
  refine Ev.bind (trim_f a ha (by omega)) ?_
  refine Ev.congr (fun k => ?c) (Ev.bind (f := ?F) (trim_f b hb (by omega)) ?d)
  case c =>
    rw [clone_f _ (by omega), Option.bind_some]
  case d =>
    refine Ev.congr (fun k => ?_) (Gcd_l0 _ _ _ (Nat.lt_succ_self _) (by omega) (by omega))
    rw [clone_f _ (by omega), Option.bind_some]
end Go.Proofs.YtofklpmlgfbmlaaGreat.ZRatP
