/- Strings as lists of bytes; decimal. Plain law, no program. -/
import Derived.Test.YtmfmojldebhboaaDoorNum
namespace Go.Proofs.YtmfmojldebhboaaDoor.Num
open Go.RowKit Go.Proofs.YtmfmojldebhboaaDoorW.PrintWords Go.Proofs.YtmfmojldebhboaaDoorW.PrintLast Go.Proofs.YtmfmojldebhboaaDoorW.PrintMore
set_option linter.unusedVariables false
set_option linter.unusedSimpArgs false

theorem toList_loop (s : ByteArray) : ∀ (d i : Nat) (r : List UInt8), s.size - i = d → ByteArray.toList.loop s i r = r.reverse ++ s.data.toList.drop i := by
  intro d
  induction d with
  | zero =>
    intro i r h
    rw [ByteArray.toList.loop, if_neg (by omega), List.drop_of_length_le (by rw [data_length]; omega), List.append_nil]
  | succ d ih =>
    intro i r h
    have hi : i < s.data.toList.length := by rw [data_length]; omega
    rw [ByteArray.toList.loop, if_pos (by omega), ih _ _ (by omega), List.drop_eq_getElem_cons hi, List.reverse_cons, List.append_assoc, List.singleton_append]
    congr 2
    have h2 : i < s.data.size := by rw [← Array.length_toList]; exact hi
    show s.get! i = _
    cases s with
    | mk a => simp only [ByteArray.get!]; simp at h2; simp [h2]
theorem toList_data (s : ByteArray) : s.toList = s.data.toList := by
  unfold ByteArray.toList
  rw [toList_loop s _ 0 [] rfl]
  simp
theorem bytesOf_inj {s t : ByteArray} (h : bytesOf s = bytesOf t) : s = t := by
  unfold bytesOf at h
  have h2 : s.data.toList = t.data.toList := by
    refine (List.map_inj_right ?_).1 h
    intro a b hab
    exact UInt8.toNat_inj.1 (Int.ofNat_inj.1 hab)
  cases s; cases t
  simp at h2
  simp [h2]
theorem bytesOf_str (xs : List Int) (h : ∀ x ∈ xs, 0 ≤ x ∧ x ≤ 255) : bytesOf (strOfNums xs) = xs := by
  unfold bytesOf strOfNums
  simp only [List.map_map]
  conv => rhs; rw [← List.map_id xs]
  refine List.map_congr_left (fun x hx => ?_)
  have := h x hx
  simp
  omega
theorem bytesOf_append (s t : ByteArray) : bytesOf (s ++ t) = bytesOf s ++ bytesOf t := by
  simp [bytesOf]
theorem str_bytesOf (s : ByteArray) : strOfNums (bytesOf s) = s := by
  apply bytesOf_inj
  rw [bytesOf_str]
  intro x hx
  simp only [bytesOf, List.mem_map] at hx
  obtain ⟨b, _, rfl⟩ := hx
  have := b.toNat_lt
  omega
theorem bytesOf_range (s : ByteArray) : ∀ x ∈ bytesOf s, 0 ≤ x ∧ x ≤ 255 := by
  intro x hx
  simp only [bytesOf, List.mem_map] at hx
  obtain ⟨b, _, rfl⟩ := hx
  have := b.toNat_lt
  omega
/-- The digits as characters. -/
def Ch (l : List Int) : List Int := l.map (48 + ·)
theorem Ch_append (l m : List Int) : Ch (l ++ m) = Ch l ++ Ch m := by simp [Ch]
theorem Ch_length (l : List Int) : (Ch l).length = l.length := by simp [Ch]
def decS (n : Nat) : List Int := if n = 0 then [48] else (Ch (NB 10 n)).reverse
def showS (n : Nat) : ByteArray := strOfNums (decS n)
theorem Ch_range {l : List Int} (h : WB 10 l) : ∀ x ∈ Ch l, 48 ≤ x ∧ x ≤ 57 := by
  intro x hx
  simp only [Ch, List.mem_map] at hx
  obtain ⟨d, hd, rfl⟩ := hx
  have := h d hd
  omega
theorem decS_range (n : Nat) : ∀ x ∈ decS n, 48 ≤ x ∧ x ≤ 57 := by
  intro x hx
  unfold decS at hx
  split at hx
  · simp at hx; omega
  · exact Ch_range (WB_NB 10 n) x (List.mem_reverse.1 hx)
theorem bytesOf_showS (n : Nat) : bytesOf (showS n) = decS n := bytesOf_str _ (fun x hx => by have := decS_range n x hx; omega)
/-- What a row of characters is worth, the highest first. -/
def valS (xs : List Int) : Nat := VB 10 (xs.reverse.map (· - 48))
theorem valS_nil : valS [] = 0 := rfl
theorem valS_snoc (xs : List Int) (x : Int) : valS (xs ++ [x]) = (x - 48).toNat + 10 * valS xs := by
  simp [valS, VB]
theorem valS_decS (n : Nat) : valS (decS n) = n := by
  unfold valS decS
  split
  · rename_i h; subst h; rfl
  · rw [List.reverse_reverse, Ch, List.map_map]
    have : ((fun x : Int => x - 48) ∘ fun x => 48 + x) = id := by funext x; simp; omega
    rw [this, List.map_id, VB_NB (by omega)]
theorem decS_len (n : Nat) (j : Nat) (hj : 0 < j) (h : n < 10 ^ j) : (decS n).length ≤ j := by
  unfold decS
  split
  · simp; omega
  · rw [List.length_reverse, Ch_length]; exact NB_length_le (by omega) _ _ h
theorem decS_ne (n : Nat) : decS n ≠ [] := by
  unfold decS
  split
  · simp
  · rename_i h
    intro e
    have e2 := congrArg List.length e
    rw [List.length_reverse, Ch_length] at e2
    exact h ((NB_len0 (b := 10) (by omega) n).1 e2)
theorem decS_lead (n : Nat) (h : 1 < (decS n).length) : ∃ x xs, decS n = x :: xs ∧ x ≠ 48 := by
  unfold decS at h ⊢
  split
  · rename_i h0; simp [h0] at h
  · rename_i h0
    rcases List.eq_nil_or_concat (NB 10 n) with e | ⟨m, x, e⟩
    · exact absurd ((NB_eq_nil (b := 10) (by omega) n).1 e) h0
    · rw [List.concat_eq_append] at e
      refine ⟨48 + x, (Ch m).reverse, by rw [e]; simp [Ch], ?_⟩
      have := NB_last (b := 10) (by omega) n m x e
      omega
def okS (xs : List Int) : Prop := ∀ x ∈ xs, 48 ≤ x ∧ x ≤ 57
def formS (xs : List Int) : Prop := xs ≠ [] ∧ (rd xs 0 = 48 → xs.length ≤ 1)
open Classical in
/-- What is read of a row of characters; the number to the base b. -/
noncomputable def parseR (b : Nat) (xs : List Int) : List Int × Int := if okS xs ∧ formS xs then (if xs.length ≤ 2000 then (NB b (valS xs), 0) else ([], 5)) else ([], 4)
theorem valS_lt {xs : List Int} (h : okS xs) : valS xs < 10 ^ xs.length := by
  have := VB_lt (b := 10) (by omega) (l := xs.reverse.map (· - 48)) (by
    intro x hx
    simp only [List.mem_map, List.mem_reverse] at hx
    obtain ⟨y, hy, rfl⟩ := hx
    have := h y hy
    omega)
  simpa [valS] using this
theorem okS_take {xs : List Int} (h : okS xs) (i : Nat) : okS (xs.take i) := fun x hx => h x (List.mem_of_mem_take hx)
theorem parseR_decS (b : Nat) (n : Nat) (h : n < 10 ^ 2000) : parseR b (decS n) = (NB b n, 0) := by
  unfold parseR
  have hf : rd (decS n) 0 = 48 → (decS n).length ≤ 1 := by
    intro e
    rcases Nat.lt_or_ge 1 (decS n).length with h1 | h1
    · obtain ⟨x, xs, h2, h3⟩ := decS_lead n h1
      rw [h2] at e
      exact absurd e h3
    · exact h1
  rw [if_pos ⟨decS_range n, decS_ne n, hf⟩, if_pos (decS_len n 2000 (by omega) h), valS_decS]
/-- A list that is as long as its number asks is canonical. -/
theorem NB_of_len {b : Nat} (hb : 2 ≤ b) (l : List Int) (h : WB b l) (hl : l.length = 0 ∨ b ^ (l.length - 1) ≤ VB b l) : NB b (VB b l) = l := by
  refine NB_canon hb l h (fun m x e hx => ?_)
  subst e
  subst hx
  rcases hl with h1 | h1
  · simp at h1
  · rw [VB_snoc] at h1
    have := VB_lt hb (WB_append.1 h).1
    simp at h1
    omega
end Go.Proofs.YtmfmojldebhboaaDoor.Num
