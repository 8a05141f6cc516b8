import Derived.Test.YtpbaloceljfaoaaLt
set_option linter.unusedVariables false
set_option linter.unusedSimpArgs false
namespace Go.Proofs.Ytpbaloceljfaoaa.ZRat
open Go.RowKit Go.Proofs.Ytpbaloceljfaoaa.Wd
open Go Go.Proofs.Ytpbaloceljfaoaa.Ab Go.Proofs
set_option linter.unusedSimpArgs false
set_option linter.unusedVariables false
set_option maxHeartbeats 8000000
set_option maxRecDepth 100000
section
variable {E : Env} {R : Type} {rs : Out → AS → Option R} {base : Nat} {k : List Todo} {r : R}
theorem loop_up {a : Code} (C : Nat → AS) (N : Nat) {s : AS} (h0 : canon base (E.keep (firstR a)) s = C 0) (hs : ∀ i, i < N → AEnds E rs base (.code a :: .again a :: k) (C (i + 1)) r → AEnds E rs base (.code a :: .again a :: k) (C i) r) (hN : AEnds E rs base (.code a :: .again a :: k) (C N) r) : AEnds E rs base (.code (.loop a) :: k) s r := by
  refine .loop ?_
  rw [h0]
  have : ∀ j, j ≤ N → AEnds E rs base (.code a :: .again a :: k) (C (N - j)) r := by
    intro j
    induction j with
    | zero => intro _; exact hN
    | succ j ih =>
      intro hj
      refine hs _ (by omega) ?_
      rw [show N - (j + 1) + 1 = N - j by omega]
      exact ih (by omega)
  simpa using this N (Nat.le_refl N)
theorem again_of {a : Code} {s c : AS} (e : canon base (E.keep (firstR a)) s = c) (h : AEnds E rs base (.code a :: .again a :: k) c r) : AEnds E rs base (.again a :: k) s r := .again (e ▸ h)
end
theorem flat_inj {α : Type} {c : α → List AV} {n : Nat} (hn : ∀ p, (c p).length = n + 1) (hc : ∀ {p q}, c p = c q → p = q) : ∀ {a b : List α}, a.flatMap c = b.flatMap c → a = b
  | [], [], _ => rfl
  | [], y :: t, h => by
    have := congrArg List.length h
    simp only [List.flatMap_cons, List.flatMap_nil, List.length_append, hn, List.length_nil] at this
    omega
  | x :: s, [], h => by
    have := congrArg List.length h
    simp only [List.flatMap_cons, List.flatMap_nil, List.length_append, hn, List.length_nil] at this
    omega
  | x :: s, y :: t, h => by
    simp only [List.flatMap_cons] at h
    obtain ⟨h1, h2⟩ := List.append_inj h (by rw [hn, hn])
    rw [hc h1, flat_inj hn hc h2]
theorem flat_len {α : Type} {c : α → List AV} {n : Nat} (hn : ∀ p, (c p).length = n) : ∀ l : List α, (l.flatMap c).length = l.length * n
  | [] => by simp
  | x :: s => by rw [List.flatMap_cons, List.length_append, hn, flat_len hn s, List.length_cons, Nat.add_mul]; omega
theorem flat_get {α : Type} {c : α → List AV} {n : Nat} (hn : ∀ p, (c p).length = n) : ∀ (l : List α) (i : Nat) (x : α), l[i]? = some x → ((l.flatMap c).drop (i * n)).take n = c x
  | [], i, x, h => by simp at h
  | y :: s, 0, x, h => by
    simp at h; subst h
    rw [Nat.zero_mul, List.drop_zero, List.flatMap_cons, List.take_append_of_le_length (by rw [hn]; exact Nat.le_refl _), List.take_of_length_le (by rw [hn]; exact Nat.le_refl _)]
  | y :: s, i + 1, x, h => by
    have ih := flat_get hn s i x (by simpa using h)
    have e : (c y ++ s.flatMap c).drop n = s.flatMap c := by rw [← hn y, List.drop_left]
    rw [List.flatMap_cons, Nat.add_mul, Nat.one_mul, Nat.add_comm, ← List.drop_drop, e]
    exact ih

theorem rowI_inj {k : IntKind} {a b : List Int} (h : rowI k a = rowI k b) : a = b := by
  have h1 := unI_rowI k a
  rw [h, unI_rowI] at h1
  exact (Option.some.inj h1).symm
/-- Sites as they lie: an id, and where. -/
abbrev G3 := Int × Int × Int
def cG (p : G3) : List AV := [.int .i64 p.1, .int .i64 p.2.1, .int .i64 p.2.2]
def rowG (l : List G3) : AV := .row l.length (l.flatMap cG)
theorem cG_inj {p q : G3} (h : cG p = cG q) : p = q := by
  obtain ⟨a, b, c⟩ := p
  obtain ⟨d, e, f⟩ := q
  simpa [cG] using h
theorem cG_len (p : G3) : (cG p).length = 3 := rfl
theorem rowG_inj (a b : List G3) (h : rowG a = rowG b) : a = b := by
  simp only [rowG, AV.row.injEq] at h
  exact flat_inj (n := 2) (fun _ => rfl) cG_inj h.2
theorem lenG (l : List G3) : (l.flatMap cG).length = l.length * 3 := flat_len cG_len l
def gAt (l : List G3) (i : Nat) : G3 := l.getD i (0, 0, 0)
theorem gAt_get {l : List G3} {i : Nat} (h : i < l.length) : l[i]? = some (gAt l i) := by
  rw [gAt, List.getD_eq_getElem?_getD, List.getElem?_eq_getElem h]; rfl
theorem chunkG {l : List G3} {i : Nat} (h : i < l.length) : ((l.flatMap cG).drop (i * 3)).take 3 = [.int .i64 (gAt l i).1, .int .i64 (gAt l i).2.1, .int .i64 (gAt l i).2.2] := flat_get cG_len l i _ (gAt_get h)
theorem cellG0 {l : List G3} {i : Nat} (h : i < l.length) : (l.flatMap cG)[i * 3]? = some (.int .i64 (gAt l i).1) := by
  have e := congrArg (·[0]?) (chunkG h)
  simpa [List.getElem?_take, List.getElem?_drop] using e
theorem cellG1 {l : List G3} {i : Nat} (h : i < l.length) : (l.flatMap cG)[i * 3 + 1]? = some (.int .i64 (gAt l i).2.1) := by
  have e := congrArg (·[1]?) (chunkG h)
  simpa [List.getElem?_take, List.getElem?_drop] using e
theorem cellG2 {l : List G3} {i : Nat} (h : i < l.length) : (l.flatMap cG)[i * 3 + 2]? = some (.int .i64 (gAt l i).2.2) := by
  have e := congrArg (·[2]?) (chunkG h)
  simpa [List.getElem?_take, List.getElem?_drop] using e
theorem chunkG2 {l : List G3} {i : Nat} (h : i < l.length) : ((l.flatMap cG).drop (i * 3 + 1)).take 2 = [.int .i64 (gAt l i).2.1, .int .i64 (gAt l i).2.2] := by
  have e := congrArg (fun x => (x.drop 1)) (chunkG h)
  simpa [List.drop_take, List.drop_drop] using e
theorem takeG (l : List G3) (k : Nat) (h : k ≤ l.length) : (l.flatMap cG).take (k * 3) = (l.take k).flatMap cG := by
  induction k generalizing l with
  | zero => simp
  | succ k ih =>
    cases l with
    | nil => simp at h
    | cons x l =>
      have e := ih l (by simpa using h)
      rw [List.flatMap_cons, List.take_succ_cons, List.flatMap_cons, ← e, Nat.add_mul, Nat.one_mul, Nat.add_comm (k * 3), List.take_append, cG_len, Nat.add_sub_cancel_left, List.take_of_length_le (by rw [cG_len]; omega)]
theorem wsucc {i : Nat} (h : i < 9223372036854775807) : wrap64 ((i : Int) + 1) = ((i + 1 : Nat) : Int) := by rw [w64in _ (by omega) (by omega)]; rfl
theorem app24 {n : Nat} (h : n ≤ 5864062014805) : (n * 24 ≤ maxApp) = True := by simp [maxApp]; omega
attribute [simp] app24
theorem ngt {i n : Nat} (h : i < n) : ((i : Int) < (n : Int)) = True := by simp [h]
theorem nge {n : Nat} : ((n : Int) < (n : Int)) = False := by simp
def agg3 : AV → Option G3
  | .agg [.int .i64 a, .int .i64 b, .int .i64 c] => some (a, b, c)
  | _ => none
theorem agg3_eq {x : AV} {a b c : Int} (h : agg3 x = some (a, b, c)) : x = .agg [.int .i64 a, .int .i64 b, .int .i64 c] := by
  unfold agg3 at h
  split at h
  · cases h; rfl
  · cases h
theorem decG (l : List G3) : dec rowG (.row l.length (l.flatMap cG)) = some l := dec_enc rowG_inj l
theorem decGm (l : List G3) (n : Nat) (h : n = l.length) : dec rowG (.row n (l.flatMap cG)) = some l := by subst h; exact dec_enc rowG_inj l
attribute [simp] agg3 decG
noncomputable def PFew : List AV → Option AV
  | [x0] => (dec rowG x0).bind fun r0 => some (rowG (r0.take 10))
  | _ => none
noncomputable def E_PFew : Env := mkQ [] [] [] []
theorem run_PFew (r0 : List G3) : AEnds E_PFew (finW Try.prog Try.f4.results) 0 [.code (Try.f4.body.getD .skip)] (startA Try.f4 [rowG r0] [] []) (rowG (r0.take 10)) := by
  simp only [Try.f4, Option.getD_some, startA]
  have hl := lenG r0
  unfold rowG
  by_cases h : 10 < r0.length
  · have ht : (r0.flatMap cG).take 30 = (r0.take 10).flatMap cG := takeG r0 10 (by omega)
    have hl2 : (r0.take 10).length = 10 := by rw [List.length_take]; omega
    have hl3 := lenG (r0.take 10)
    have h10 : ((r0.length : Int) > 10) = True := by simp; omega
    have hs : 10 ≤ (r0.length : Int) := by omega
    rw [hl2] at hl3
    simp (maxSteps := 4000000) (disch := (first | with_reducible rfl | assumption | omega | (simp only [List.length_append, List.length_map, List.length_cons, List.length_nil, List.length_set, List.length_replicate, List.length_take, List.size_toArray]; omega))) [E_PFew, h, ht, hl, hl2, hl3, h10, hs]
  · have ht : r0.take 10 = r0 := List.take_of_length_le (by omega)
    have h10 : ((10 : Int) < (r0.length : Int)) = False := by simp; omega
    rw [ht]
    simp (maxSteps := 4000000) (disch := (first | with_reducible rfl | assumption | omega | (simp only [List.length_append, List.length_map, List.length_cons, List.length_nil, List.length_set, List.length_replicate, List.length_take, List.size_toArray]; omega))) [E_PFew, h, hl, h10]
theorem sPFew : GoodS (4, PFew) := by
  intro xs r h
  simp only at h
  unfold PFew at h
  split at h
  · obtain ⟨r0, h0, h⟩ := Option.bind_eq_some_iff.1 h
    cases h
    obtain rfl := dec_out h0
    exact .inl <| okW_ends (mkQ_ok alls_nil allq_nil) mixed Try.func4 rfl (by kernel_rfl : Fits Try.prog E_PFew.ref E_PFew.dep Try.f4 = true) (run_PFew _)
  · cases h
attribute [simp] PFew
end Go.Proofs.Ytpbaloceljfaoaa.ZRat
