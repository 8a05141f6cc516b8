import Derived.Test.YtpbaloceljfaoaaLt
import Derived.Test.YtpbaloceljfaoaaXPsK
import Derived.Test.YtpbaloceljfaoaaXPsK
set_option linter.unusedVariables false
set_option linter.unusedSimpArgs false
namespace Go.Proofs.Ytpbaloceljfaoaa.ZRat
open Go.RowKit Go.Proofs.Ytpbaloceljfaoaa.Wd
open Go Go.Proofs.Ytpbaloceljfaoaa.Ab Go.Proofs
set_option linter.unusedSimpArgs false
set_option linter.unusedVariables false
set_option maxHeartbeats 8000000
set_option maxRecDepth 100000
def m1 (p : G3) : AV × AV := (.int .i64 p.1, .bool true)
def m2 (p : G3) : AV × AV := (.agg [.int .i64 p.2.1, .int .i64 p.2.2], .bool true)
theorem fA1n (d : Int) : ∀ (l : List G3) (k : Nat), (∀ p ∈ l, ¬ p.1 = d) → findA Try.prog 3 (.int .i64 d) (l.map m1) k = some none
  | [], k, _ => rfl
  | p :: l, k, h => by
    have h1 : (d == p.1) = false := by simpa using fun e : d = p.1 => h p (by simp) e.symm
    simp only [List.map_cons, m1, findA, eqK, if_true, h1]
    exact fA1n d l (k + 1) (fun q hq => h q (by simp [hq]))
theorem fA1s (d : Int) : ∀ (l : List G3) (k : Nat), (∃ p ∈ l, p.1 = d) → ∃ j, findA Try.prog 3 (.int .i64 d) (l.map m1) k = some (some (j, .int .i64 d, .bool true))
  | [], k, ⟨p, hp, _⟩ => by simp at hp
  | p :: l, k, h => by
    by_cases e : p.1 = d
    · refine ⟨k, ?_⟩
      simp only [List.map_cons, m1, findA, eqK, if_true, e, beq_self_eq_true]
    · have h1 : (d == p.1) = false := by simpa using fun q : d = p.1 => e q.symm
      obtain ⟨q, hq, eq⟩ := h
      rcases List.mem_cons.1 hq with rfl | hq
      · exact (e eq).elim
      · simp only [List.map_cons, m1, findA, eqK, if_true, h1]
        exact fA1s d l (k + 1) ⟨q, hq, eq⟩
theorem fA2n (d f : Int) : ∀ (l : List G3) (k : Nat), (∀ p ∈ l, ¬ (p.2.1 = d ∧ p.2.2 = f)) → findA Try.prog 36 (.agg [.int .i64 d, .int .i64 f]) (l.map m2) k = some none
  | [], k, _ => rfl
  | p :: l, k, h => by
    have h1 : (d == p.2.1 && f == p.2.2) = false := by
      have := h p (by simp)
      rw [Bool.and_eq_false_iff]
      by_cases e : p.2.1 = d
      · exact .inr (by simpa using fun q : f = p.2.2 => this ⟨e, q.symm⟩)
      · exact .inl (by simpa using fun q : d = p.2.1 => e q.symm)
    simp only [List.map_cons, m2, findA, eqK, eq36, h1]
    exact fA2n d f l (k + 1) (fun q hq => h q (by simp [hq]))
theorem fA2s (d f : Int) : ∀ (l : List G3) (k : Nat), (∃ p ∈ l, p.2.1 = d ∧ p.2.2 = f) → ∃ j, findA Try.prog 36 (.agg [.int .i64 d, .int .i64 f]) (l.map m2) k = some (some (j, .agg [.int .i64 d, .int .i64 f], .bool true))
  | [], k, ⟨p, hp, _⟩ => by simp at hp
  | p :: l, k, h => by
    by_cases e : p.2.1 = d ∧ p.2.2 = f
    · refine ⟨k, ?_⟩
      simp only [List.map_cons, m2, findA, eqK, eq36, e.1, e.2, beq_self_eq_true, Bool.and_self]
    · have h1 : (d == p.2.1 && f == p.2.2) = false := by
        rw [Bool.and_eq_false_iff]
        by_cases q : p.2.1 = d
        · exact .inr (by simpa using fun r : f = p.2.2 => e ⟨q, r.symm⟩)
        · exact .inl (by simpa using fun r : d = p.2.1 => q r.symm)
      obtain ⟨q, hq, eq⟩ := h
      rcases List.mem_cons.1 hq with rfl | hq
      · exact (e eq).elim
      · simp only [List.map_cons, m2, findA, eqK, eq36, h1]
        exact fA2s d f l (k + 1) ⟨q, hq, eq⟩
theorem take_mem {l : List G3} {i : Nat} (h : i ≤ l.length) (p : G3) : p ∈ l.take i ↔ ∃ k, k < i ∧ gAt l k = p := by
  constructor
  · intro hp
    obtain ⟨k, hk⟩ := List.getElem?_of_mem hp
    have h1 := (List.getElem?_eq_some_iff.1 hk).1
    rw [List.length_take] at h1
    rw [List.getElem?_take, if_pos (by omega), gAt_get (by omega)] at hk
    exact ⟨k, by omega, Option.some.inj hk⟩
  · rintro ⟨k, hk, rfl⟩
    refine List.mem_of_getElem? (i := k) ?_
    rw [List.getElem?_take, if_pos hk, gAt_get (by omega)]
theorem take_succ {l : List G3} {i : Nat} (h : i < l.length) : l.take (i + 1) = l.take i ++ [gAt l i] := by rw [List.take_add_one, gAt_get h]; rfl
noncomputable def E_PSites : Env := mkQ [] [(9, QSFx)] [(6, [0, 6, 7, 8, 20, 21, 22])] [(11, [([], [], false), ([], [], false), ([], [], false), ([], [], false), ([], [], true), ([], [4], false), ([], [], false)])]
def C_P0 (a0 : Int) (r1 : List G3) : AS := ⟨[.int .i64 a0, .any, .any, .any, .any, .any, .map 0, .map 1, .nil, .any, .any, .any, .any, .any, .any, .any, .any, .any, .any, .any, .row r1.length (r1.flatMap cG), .int .i64 r1.length, .int .i64 0, .any, .any, .any, .any, .any, .any, .any, .any, .any, .any, .any, .any, .any, .any, .any, .any, .any, .any, .any, .any, .any, .any, .any, .any, .any, .any, .any, .any, .any, .any, .any, .any, .any, .any, .any, .any, .any, .any, .any, .any, .any, .any, .any, .any, .any, .any, .any, .any, .any, .any, .any, .any, .any, .any, .any, .any, .any, .any, .any, .any, .any, .any, .any, .any, .any], [.map [], .map []], [false, false]⟩
def C_P1 (a0 : Int) (r1 : List G3) (i : Nat) : AS := ⟨[.int .i64 a0, .any, .any, .any, .any, .any, .map 0, .map 1, .own 2 0 i 3, .any, .any, .any, .any, .any, .any, .any, .any, .any, .any, .any, .row r1.length (r1.flatMap cG), .int .i64 r1.length, .int .i64 i, .any, .any, .any, .any, .any, .any, .any, .any, .any, .any, .any, .any, .any, .any, .any, .any, .any, .any, .any, .any, .any, .any, .any, .any, .any, .any, .any, .any, .any, .any, .any, .any, .any, .any, .any, .any, .any, .any, .any, .any, .any, .any, .any, .any, .any, .any, .any, .any, .any, .any, .any, .any, .any, .any, .any, .any, .any, .any, .any, .any, .any, .any, .any, .any, .any], [.map ((r1.take i).map m1), .map ((r1.take i).map m2), .arr ((r1.take i).flatMap cG)], [false, false, false]⟩
def C_PS (a0 : Int) (r1 : List G3) : Nat → AS
  | 0 => C_P0 a0 r1
  | i + 1 => C_P1 a0 r1 (i + 1)
end Go.Proofs.Ytpbaloceljfaoaa.ZRat
