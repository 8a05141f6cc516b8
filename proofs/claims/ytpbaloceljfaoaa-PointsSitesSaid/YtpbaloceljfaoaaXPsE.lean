import Derived.Test.YtpbaloceljfaoaaLt
import Derived.Test.YtpbaloceljfaoaaXPsC
import Derived.Test.YtpbaloceljfaoaaXPsD
import Derived.Test.YtpbaloceljfaoaaXPsD
set_option linter.unusedVariables false
set_option linter.unusedSimpArgs false
namespace Go.Proofs.Ytpbaloceljfaoaa.ZRat
open Go.RowKit Go.Proofs.Ytpbaloceljfaoaa.Wd
open Go Go.Proofs.Ytpbaloceljfaoaa.Ab Go.Proofs
set_option linter.unusedSimpArgs false
set_option linter.unusedVariables false
set_option maxHeartbeats 8000000
set_option maxRecDepth 100000
/-- Sites put one by one. -/
def seqG (l : List G3) (i : Nat) : List G3 := (l.take i).foldl putG []
def lC (l : List G3) : AV := if l = [] then .nil else rowG l
theorem lC_dec (l : List G3) : decL (lC l) = some l := by
  unfold lC
  split
  · rename_i h; subst h; rfl
  · exact decG l
theorem seqG_0 (l : List G3) : seqG l 0 = [] := rfl
theorem seqG_succ {l : List G3} {i : Nat} (h : i < l.length) : seqG l (i + 1) = putG (seqG l i) (gAt l i) := by
  unfold seqG
  rw [List.take_add_one, gAt_get h, Option.toList_some, List.foldl_append]
  rfl
theorem seqG_len {l : List G3} : ∀ {i : Nat}, i ≤ l.length → (seqG l i).length = i
  | 0, _ => rfl
  | i + 1, h => by rw [seqG_succ (by omega), putG_len, seqG_len (by omega)]
theorem putG_mem (l : List G3) (x p : G3) : p ∈ putG l x ↔ p = x ∨ p ∈ l := by
  induction l with
  | nil => simp [putG]
  | cons a l ih =>
    simp only [putG]
    split
    · simp
    · simp only [List.mem_cons, ih]
      constructor
      · rintro (h | h | h)
        · exact .inr (.inl h)
        · exact .inl h
        · exact .inr (.inr h)
      · rintro (h | h | h)
        · exact .inr (.inl h)
        · exact .inl h
        · exact .inr (.inr h)
theorem seqG_mem (l : List G3) (p : G3) : ∀ i, i ≤ l.length → (p ∈ seqG l i ↔ ∃ k, k < i ∧ gAt l k = p)
  | 0, _ => by simp [seqG]
  | i + 1, h => by
    rw [seqG_succ (by omega), putG_mem, seqG_mem l p i (by omega)]
    constructor
    · rintro (rfl | ⟨k, hk, rfl⟩)
      · exact ⟨i, by omega, rfl⟩
      · exact ⟨k, by omega, rfl⟩
    · rintro ⟨k, hk, rfl⟩
      rcases Nat.lt_or_ge k i with q | q
      · exact .inr ⟨k, q, rfl⟩
      · exact .inl (by rw [show k = i by omega])
theorem lC_put (l : List G3) (x : G3) : lC (putG l x) = rowG (putG l x) := by
  unfold lC
  rw [if_neg]
  intro h
  have := putG_len l x
  rw [h] at this
  simp at this
def okI (n : Int) (l : List G3) (i : Nat) : Prop := (0 ≤ (gAt l i).1 ∧ (gAt l i).1 < 16777216) ∧ (∀ k, k < i → ¬ (gAt l k).1 = (gAt l i).1) ∧ (0 ≤ (gAt l i).2.1 ∧ (gAt l i).2.1 < n ∧ 0 ≤ (gAt l i).2.2 ∧ (gAt l i).2.2 < n) ∧ ∀ k, k < i → ¬ ((gAt l k).2.1 = (gAt l i).2.1 ∧ (gAt l k).2.2 = (gAt l i).2.2)
theorem idx_seq (l : List G3) (i : Nat) (h : i ≤ l.length) (p : G3 → Bool) : (0 ≤ idxG (seqG l i) p ∧ ∃ k, k < i ∧ p (gAt l k) = true) ∨ (idxG (seqG l i) p = -1 ∧ ∀ k, k < i → p (gAt l k) = false) := by
  have mg : ∀ (m : List G3) (j : Nat), j < m.length → gAt m j ∈ m := fun m j hj => List.mem_of_getElem? (gAt_get hj)
  rcases idxG_spec (seqG l i) p with ⟨N, hN, hp, -, e⟩ | ⟨hq, e⟩
  · left
    obtain ⟨k, hk, ek⟩ := (seqG_mem l _ i h).1 (mg _ N hN)
    exact ⟨by rw [e]; omega, k, hk, by rw [ek]; exact hp⟩
  · right
    refine ⟨e, fun k hk => ?_⟩
    obtain ⟨j, hj⟩ := List.getElem?_of_mem ((seqG_mem l _ i h).2 ⟨k, hk, rfl⟩)
    have hj2 := (List.getElem?_eq_some_iff.1 hj).1
    have := hq j hj2
    rw [gAt_get hj2] at hj
    rw [← Option.some.inj hj]; exact this
open Classical in
theorem first_bad (n : Int) (l : List G3) : (∀ i, i < l.length → okI n l i) ∨ ∃ N, N < l.length ∧ ¬ okI n l N ∧ ∀ i, i < N → okI n l i := by
  by_cases h : ∃ N, N < l.length ∧ ¬ okI n l N
  · right
    have key : ∀ m N, N ≤ m → N < l.length ∧ ¬ okI n l N → ∃ N, N < l.length ∧ ¬ okI n l N ∧ ∀ i, i < N → okI n l i := by
      intro m
      induction m with
      | zero => intro N hN h; exact ⟨N, h.1, h.2, fun i hi => by omega⟩
      | succ m ih =>
        intro N hN h
        by_cases q : ∃ i, i < N ∧ ¬ okI n l i
        · obtain ⟨i, hi, hq⟩ := q
          exact ih i (by omega) ⟨by omega, hq⟩
        · exact ⟨N, h.1, h.2, fun i hi => Classical.byContradiction fun hn => q ⟨i, hi, hn⟩⟩
    obtain ⟨N, hN⟩ := h
    exact key N N (Nat.le_refl _) hN
  · left
    exact fun i hi => Classical.byContradiction fun hn => h ⟨i, hi, hn⟩
open Classical in
noncomputable def sitesR (n : Int) (l : List G3) : AV := if 1 ≤ n ∧ n ≤ 1073741824 ∧ ∀ i, i < l.length → okI n l i then .tup [rowG (seqG l l.length), .int .i64 0] else .tup [.row 0 [], .int .i64 18]
theorem sitesR_ok {n : Int} {l : List G3} (h1 : 1 ≤ n) (h2 : n ≤ 1073741824) (h : ∀ i, i < l.length → okI n l i) : sitesR n l = .tup [.row (seqG l l.length).length ((seqG l l.length).flatMap cG), .int .i64 0] := if_pos ⟨h1, h2, h⟩
theorem sitesR_n1 {n : Int} {l : List G3} (h : ¬ 1 ≤ n) : sitesR n l = .tup [.row 0 [], .int .i64 18] := if_neg fun q => h q.1
theorem sitesR_n2 {n : Int} {l : List G3} (h : ¬ n ≤ 1073741824) : sitesR n l = .tup [.row 0 [], .int .i64 18] := if_neg fun q => h q.2.1
theorem sitesR_bad {n : Int} {l : List G3} {N : Nat} (h : N < l.length) (hb : ¬ okI n l N) : sitesR n l = .tup [.row 0 [], .int .i64 18] := if_neg fun q => hb (q.2.2 N h)
theorem lC_cases (l : List G3) : (lC l = .nil ∧ l = []) ∨ lC l = .row l.length (l.flatMap cG) := by
  unfold lC
  split
  · rename_i h; exact .inl ⟨rfl, h⟩
  · exact .inr rfl
theorem decLr (l : List G3) : decL (.row l.length (l.flatMap cG)) = some l := decG l
noncomputable def E_RSites : Env := mkQ [(14, MPut)] [(11, QAt), (12, QSite), (13, QOn)] [(5, [1, 6, 7])] [(7, [([], [], false), ([], [], false), ([], [], false), ([], [], false), ([], [], false), ([], [], false), ([], [], false), ([], [], false), ([], [], false), ([], [], false), ([], [], false), ([], [], false), ([0], [], false)]), (8, [([], [], false), ([], [], false), ([], [], false), ([], [], false), ([], [], false), ([], [], false), ([], [], false), ([], [], false), ([], [], false), ([], [], false), ([], [], false), ([], [], false), ([], [], false), ([], [], false), ([], [], false), ([], [], false), ([], [], false), ([], [], false), ([], [], false), ([], [], false), ([], [], false), ([], [], false), ([], [], false), ([], [], false), ([], [], false), ([], [], false), ([], [], false), ([], [], false), ([], [], false), ([], [], false), ([0], [], false), ([0], [], false), ([], [], false), ([], [], false), ([], [], false), ([], [], false), ([0, 1], [], false), ([0, 1], [], false), ([], [], false), ([], [], false)])]
def C_RS (a0 : Int) (r1 : List G3) (i : Nat) : AS := ⟨[.any, .row r1.length (r1.flatMap cG), .any, .any, .any, .any, .ptr 0 0, .int .i64 i, .any, .any, .any, .any, .any, .any, .any, .any, .any, .any, .any, .any, .any, .any, .any, .any, .any, .any, .any, .any, .any, .any, .any, .any, .any, .any, .any, .any, .any, .any, .any, .any, .any, .any, .any, .any, .any, .any, .any, .any, .any, .any, .any, .any, .any, .any, .any, .any, .any, .any, .any, .any, .any, .any, .any, .any, .any, .any, .any, .any, .any, .any, .any, .any, .any, .any, .any, .any, .any, .any, .any, .any, .any, .any, .any, .any, .any, .any, .any, .any, .any, .any, .any, .any, .any, .any, .any, .any], [.obj [.int .i64 a0, .int .i64 16777216, lC (seqG r1 i)]], [false]⟩
end Go.Proofs.Ytpbaloceljfaoaa.ZRat
