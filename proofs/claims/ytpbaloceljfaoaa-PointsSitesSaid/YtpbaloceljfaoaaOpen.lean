/- A law's arguments as abstract values. -/
import Derived.Test.YtpbaloceljfaoaaAbC
import Derived.ChangeOld
import Derived.Below
set_option linter.unusedVariables false
set_option linter.unusedSimpArgs false
namespace Go.Proofs.Ytpbaloceljfaoaa.Ab
open Go
set_option linter.unusedVariables false
set_option linter.unusedSimpArgs false
/-- Parts one behind the other. -/
def TyFs (T : TypeId → List AV → Prop) : List TypeId → List AV → Prop
  | [], xs => xs = []
  | t :: ts, xs => ∃ ys zs, xs = ys ++ zs ∧ T t ys ∧ TyFs T ts zs
/-- What the cells of a value of a type are. -/
def TyL (P : Program) : Nat → TypeId → List AV → Prop
  | 0, _, _ => False
  | d + 1, t, xs =>
    match P.underlying t with
    | some .bool => ∃ b, xs = [.bool b]
    | some (.int k) => ∃ n, xs = [.int k n] ∧ (Lit.int k n).wf = true
    | some .string => ∃ s, xs = [.str s] ∧ s.size ≤ maxLen
    | some (.slice e) => ∃ l : List (List AV), xs = [.row l.length l.flatten] ∧ l.length ≤ maxLen ∧ ∀ ys ∈ l, ys.length = P.cellsOf e ∧ TyL P d e ys
    | some (.struct fs) => TyFs (TyL P d) (fs.toList.map (·.type)) xs
    | some (.array n e) => TyFs (TyL P d) (List.replicate n e) xs
    | _ => False
/-- Whether fields lie one behind the other. -/
def tiles (P : Program) : Nat → List Field → Option Nat
  | o, [] => some o
  | o, f :: fs => if f.offset = o then tiles P (o + P.cellsOf f.type) fs else none
/-- Types of numbers, texts, slices, structs and arrays. -/
def plainT (P : Program) : Nat → TypeId → Bool
  | 0, _ => false
  | d + 1, t =>
    match P.underlying t with
    | some .bool | some .string => P.cellsOf t == 1
    | some (.int _) => P.cellsOf t == 1
    | some (.slice e) => P.cellsOf t == 1 && plainT P d e
    | some (.struct fs) => P.cellsOf t != 0 && tiles P 0 fs.toList == some (P.cellsOf t) && fs.toList.all fun f => plainT P d f.type
    | some (.array n e) => P.cellsOf t != 0 && P.cellsOf t == n * P.cellsOf e && plainT P d e
    | _ => false
section
variable {H : Type} {enc : TypeId × Value → H} {P : Program} {w : World}
/-- Old memory. -/
abbrev Old (w : World) (b : Nat) : Prop := b < w.heap.size
/-- Cells beside abstract ones. -/
def CL (w : World) (xs : List AV) (cs : List Value) : Prop := xs.length = cs.length ∧ ∀ (j : Nat) (c : AV), xs[j]? = some c → ∃ v, cs[j]? = some v ∧ P1 (Old w) w c v
theorem CL.app {a b : List AV} {c d : List Value} (h : CL w a c) (k : CL w b d) : CL w (a ++ b) (c ++ d) := by
  refine ⟨by simp [h.1, k.1], fun j x hj => ?_⟩
  rw [List.getElem?_append] at hj
  split at hj
  · rename_i hl
    obtain ⟨v, hv, hp⟩ := h.2 j x hj
    exact ⟨v, by rw [List.getElem?_append, if_pos (by rw [← h.1]; exact hl)]; exact hv, hp⟩
  · rename_i hl
    obtain ⟨v, hv, hp⟩ := k.2 _ x hj
    exact ⟨v, by rw [List.getElem?_append, if_neg (by rw [← h.1]; exact hl), ← h.1]; exact hv, hp⟩
theorem CL.one {x : AV} {v : Value} (h : P1 (Old w) w x v) : CL w [x] [v] := ⟨rfl, fun j c hj => by
  cases j with
  | zero => simp at hj; subst hj; exact ⟨v, rfl, h⟩
  | succ j => simp at hj⟩
/-- The reading of one place. -/
abbrev Rdg (enc : TypeId × Value → H) (P : Program) (w : World) (fuel : Nat) (t : TypeId) (cs : List Value) : Option (DataW H × List MemPlace) := DataW.trod enc P w 0 (fun _ => true) true fuel t cs
theorem mapM_cons_some {α β : Type} {f : α → Option β} {a : α} {l : List α} {r : List β} (h : (a :: l).mapM f = some r) : ∃ b bs, f a = some b ∧ l.mapM f = some bs ∧ r = b :: bs := by
  rw [List.mapM_cons] at h
  cases h1 : f a with
  | none => simp [h1] at h
  | some b =>
    cases h2 : l.mapM f with
    | none => simp [h1, h2] at h
    | some bs => simp [h1, h2] at h; exact ⟨b, bs, rfl, rfl, h.symm⟩
theorem mapM_mem {α β : Type} {f : α → Option β} : ∀ {l : List α} {r : List β}, l.mapM f = some r → ∀ a ∈ l, ∃ b, f a = some b
  | [], r, h, a, ha => by simp at ha
  | x :: l, r, h, a, ha => by
    obtain ⟨b, bs, h1, h2, _⟩ := mapM_cons_some h
    rcases List.mem_cons.1 ha with e | e
    · subst e; exact ⟨b, h1⟩
    · exact mapM_mem h2 a e
theorem range_get {n : Nat} {f : Nat → Option Value} {cs : List Value} (h : (List.range n).mapM f = some cs) : cs.length = n ∧ ∀ i, i < n → f i = cs[i]? := by
  have key : ∀ (m k : Nat) (cs : List Value), (List.range' k m).mapM f = some cs → cs.length = m ∧ ∀ i, i < m → f (k + i) = cs[i]? := by
    intro m
    induction m with
    | zero => intro k cs h; simp at h; subst h; exact ⟨rfl, fun i hi => by omega⟩
    | succ m ih =>
      intro k cs h
      rw [List.range'_succ] at h
      obtain ⟨b, bs, h1, h2, rfl⟩ := mapM_cons_some h
      obtain ⟨h3, h4⟩ := ih _ _ h2
      refine ⟨by simp [h3], fun i hi => ?_⟩
      cases i with
      | zero => simpa using h1
      | succ i => have := h4 i (by omega); rw [show k + (i + 1) = k + 1 + i by omega]; simpa using this
  rw [List.range_eq_range'] at h
  obtain ⟨h1, h2⟩ := key n 0 cs h
  exact ⟨h1, fun i hi => by simpa using h2 i hi⟩
theorem cellsAt {a : Addr} {n : Nat} {cs : List Value} (h : w.cells? 0 a n = some cs) : cs.length = n ∧ ∀ i, i < n → w.cell? (a.add i) = cs[i]? := by
  unfold World.cells? at h
  rw [if_pos (Nat.zero_le _)] at h
  exact range_get h
theorem cell_lt {a : Addr} {v : Value} (h : w.cell? a = some v) : a.block < w.heap.size ∧ a.spot = none := by
  unfold World.cell? at h
  split at h
  · rename_i hb
    refine ⟨(Array.getElem?_eq_some_iff.1 hb).1, ?_⟩
    split at h
    · cases h
    · rename_i hs; simpa using hs
  · cases h
theorem addr_add (a : Addr) (i j : Nat) : (a.add i).add j = a.add (i + j) := by
  unfold Addr.add
  by_cases hi : i = 0
  · subst hi; simp
  · by_cases hj : j = 0
    · subst hj; simp [hi]
    · simp [hi, hj, show i + j ≠ 0 by omega, Nat.add_assoc]
theorem addr_none (b o j : Nat) : (⟨b, o, none⟩ : Addr).add j = ⟨b, o + j, none⟩ := by unfold Addr.add; split <;> simp_all
theorem cells_pos : ∀ {d : Nat} {t : TypeId}, plainT P d t = true → 0 < P.cellsOf t := by
  intro d t h
  cases d with
  | zero => simp [plainT] at h
  | succ d =>
    simp only [plainT] at h
    split at h
    all_goals (try simp only [Bool.and_eq_true, beq_iff_eq, bne_iff_ne] at h)
    all_goals first | (cases h; done) | omega
theorem PC.ofCL {xs : List AV} {b o : Nat} (h : ∀ (j : Nat) (c : AV), xs[j]? = some c → ∃ v, w.cell? ⟨b, o + j, none⟩ = some v ∧ P1 (Old w) w c v) : PC (Old w) w xs b o := PC.of h
theorem elems_of {fuel d : Nat} {e : TypeId} (ih : ∀ (cs : List Value) (y : DataW H × List MemPlace), Rdg enc P w fuel e cs = some y → ∃ xs, CL w xs cs ∧ TyL P d e xs ∧ xs.length = P.cellsOf e) (a : Addr) : ∀ (n k : Nat) (ys : List (DataW H × List MemPlace)),
    ((List.range' k n).mapM fun i => (w.cells? 0 (a.add (i * P.cellsOf e)) (P.cellsOf e)).bind (Rdg enc P w fuel e)) = some ys → ∃ l : List (List AV), l.length = n ∧ (∀ xs ∈ l, xs.length = P.cellsOf e ∧ TyL P d e xs) ∧
      ∀ (j : Nat) (c : AV), l.flatten[j]? = some c → ∃ v, w.cell? (a.add (k * P.cellsOf e + j)) = some v ∧ P1 (Old w) w c v := by
  intro n
  induction n with
  | zero =>
    intro k ys h
    refine ⟨[], rfl, (fun x hx => absurd hx (List.not_mem_nil)), fun j c hj => ?_⟩
    simp at hj
  | succ n ihn =>
    intro k ys h
    rw [List.range'_succ] at h
    obtain ⟨b, bs, h1, h2, rfl⟩ := mapM_cons_some h
    obtain ⟨l, g1, g2, g3⟩ := ihn _ _ h2
    obtain ⟨cs, hc, hr⟩ := Option.bind_eq_some_iff.1 h1
    obtain ⟨xs, e1, e2, e3⟩ := ih cs b hr
    obtain ⟨f1, f2⟩ := cellsAt hc
    refine ⟨xs :: l, by simp [g1], fun x hx => ?_, fun j c hj => ?_⟩
    · rcases List.mem_cons.1 hx with q | q
      · subst q; exact ⟨e3, e2⟩
      · exact g2 x q
    · simp only [List.flatten_cons] at hj
      rw [List.getElem?_append] at hj
      split at hj
      · rename_i hl
        obtain ⟨v, hv, hp⟩ := e1.2 j c hj
        refine ⟨v, ?_, hp⟩
        have := f2 j (by omega)
        rw [hv, addr_add] at this
        exact this
      · rename_i hl
        obtain ⟨v, hv, hp⟩ := g3 _ c hj
        refine ⟨v, ?_, hp⟩
        rw [show k * P.cellsOf e + j = (k + 1) * P.cellsOf e + (j - xs.length) by rw [Nat.add_mul]; omega]
        exact hv
theorem fields_of {fuel d : Nat} {cs : List Value} (ih : ∀ (t : TypeId) (cs : List Value) (y : DataW H × List MemPlace), Rdg enc P w fuel t cs = some y → plainT P d t = true → ∃ xs, CL w xs cs ∧ TyL P d t xs ∧ xs.length = P.cellsOf t) : ∀ (fs : List Field) (o n : Nat) (ys : List (DataW H × List MemPlace)), tiles P o fs = some n →
    (∀ f ∈ fs, plainT P d f.type = true) → fs.mapM (fun f => Rdg enc P w fuel f.type ((cs.drop f.offset).take (P.cellsOf f.type))) = some ys → cs.length = n → o ≤ n → ∃ xs, CL w xs (cs.drop o) ∧ TyFs (TyL P d) (fs.map (·.type)) xs := by
  intro fs
  induction fs with
  | nil =>
    intro o n ys ht hp h hl ho
    simp only [tiles, Option.some.injEq] at ht
    subst ht
    exact ⟨[], by rw [List.drop_of_length_le (by omega)]; exact ⟨rfl, fun j c hj => by simp at hj⟩, rfl⟩
  | cons f fs ihf =>
    intro o n ys ht hp h hl ho
    simp only [tiles] at ht
    split at ht
    · rename_i hf
      obtain ⟨b, bs, h1, h2, rfl⟩ := mapM_cons_some h
      obtain ⟨xs, e1, e2, e3⟩ := ih _ _ _ h1 (hp f (by simp))
      have hle : o + P.cellsOf f.type ≤ n := by
        have := e1.1
        rw [e3, List.length_take, List.length_drop, hf] at this
        by_cases h0 : P.cellsOf f.type = 0
        · omega
        · omega
      obtain ⟨zs, g1, g2⟩ := ihf _ n _ ht (fun g hg => hp g (by simp [hg])) h2 hl hle
      refine ⟨xs ++ zs, ?_, xs, zs, rfl, e2, g2⟩
      have hh := e1.app g1
      rw [hf, ← List.drop_drop, List.take_append_drop] at hh
      exact hh
    · cases ht
theorem parts_of {fuel d : Nat} {e : TypeId} {cs : List Value} (ih : ∀ (cs : List Value) (y : DataW H × List MemPlace), Rdg enc P w fuel e cs = some y → ∃ xs, CL w xs cs ∧ TyL P d e xs ∧ xs.length = P.cellsOf e) : ∀ (n k : Nat) (ys : List (DataW H × List MemPlace)),
    (List.range' k n).mapM (fun i => Rdg enc P w fuel e ((cs.drop (i * P.cellsOf e)).take (P.cellsOf e))) = some ys → cs.length = (k + n) * P.cellsOf e → ∃ xs, CL w xs (cs.drop (k * P.cellsOf e)) ∧ TyFs (TyL P d) (List.replicate n e) xs := by
  intro n
  induction n with
  | zero =>
    intro k ys h hl
    exact ⟨[], by rw [List.drop_of_length_le (by rw [hl]; simp)]; exact ⟨rfl, fun j c hj => by simp at hj⟩, rfl⟩
  | succ n ihn =>
    intro k ys h hl
    rw [List.range'_succ] at h
    obtain ⟨b, bs, h1, h2, rfl⟩ := mapM_cons_some h
    obtain ⟨xs, e1, e2, e3⟩ := ih _ _ h1
    obtain ⟨zs, g1, g2⟩ := ihn _ _ h2 (by rw [hl]; congr 1; omega)
    refine ⟨xs ++ zs, ?_, xs, zs, rfl, e2, g2⟩
    have hh := e1.app g1
    rw [Nat.add_mul, Nat.one_mul, ← List.drop_drop, List.take_append_drop] at hh
    exact hh
theorem open_all : ∀ (fuel d : Nat) (t : TypeId) (cs : List Value) (y : DataW H × List MemPlace), Rdg enc P w fuel t cs = some y → plainT P d t = true → ∃ xs, CL w xs cs ∧ TyL P d t xs ∧ xs.length = P.cellsOf t := by
  intro fuel
  induction fuel with
  | zero => intro d t cs y h; simp [Rdg, DataW.trod] at h
  | succ fuel ih =>
    intro d t cs y h hp
    cases d with
    | zero => simp [plainT] at hp
    | succ d =>
    have hlen : ∀ {xs : List AV}, CL w xs cs → xs.length = cs.length := fun h => h.1
    simp only [Rdg, DataW.trod] at h
    simp only [plainT] at hp
    simp only [TyL]
    split at hp
    · rename_i hu
      simp only [beq_iff_eq] at hp
      simp only [hu] at h ⊢
      split at h
      all_goals try (simp_all; done)
      rename_i b _
      exact ⟨[.bool b], CL.one (by simp only [P1]), ⟨b, rfl⟩, by simp [hp]⟩
    · rename_i hu
      simp only [beq_iff_eq] at hp
      simp only [hu] at h ⊢
      split at h
      all_goals try (simp_all; done)
      rename_i s _
      split at h
      · rename_i hs; exact ⟨[.str s], CL.one (by simp only [P1]), ⟨s, rfl, hs⟩, by simp [hp]⟩
      · cases h
    · rename_i k hu
      simp only [beq_iff_eq] at hp
      simp only [hu] at h ⊢
      split at h
      all_goals try (simp_all; done)
      rename_i k2 k' n e
      simp only [Option.some.injEq, TypeDesc.int.injEq] at e
      split at h
      · rename_i hk
        obtain ⟨rfl, hw⟩ := hk
        subst e
        exact ⟨[.int _ n], CL.one (by simp only [P1]), ⟨n, rfl, hw⟩, by simp [hp]⟩
      · cases h
    · rename_i e hu
      simp only [Bool.and_eq_true, beq_iff_eq] at hp
      simp only [hu] at h ⊢
      split at h
      all_goals try (simp_all; done)
      · exact ⟨[.row 0 []], CL.one (by simp only [P1]; exact ⟨none, 0, rfl, Nat.le_refl _, by simp⟩), ⟨[], rfl, Nat.zero_le _, fun _ h => by cases h⟩, by simp [hp.1]⟩
      · rename_i _ _ _ a len cap hu2
        simp only [Option.some.injEq, TypeDesc.slice.injEq] at hu2
        subst hu2
        split at h
        · rename_i hb
          obtain ⟨ys, h1, h2⟩ := Option.bind_eq_some_iff.1 h
          rw [List.range_eq_range'] at h1
          obtain ⟨l, g1, g2, g3⟩ := elems_of (d := d) (fun cs y hy => ih d _ cs y hy hp.2) a len 0 ys h1
          refine ⟨[.row l.length l.flatten], CL.one ?_, ⟨l, rfl, by omega, fun ys hy => g2 ys hy⟩, by simp [hp.1]⟩
          simp only [P1]
          refine ⟨some a, cap, by rw [g1], by omega, ?_⟩
          by_cases h0 : l.flatten = []
          · by_cases hl0 : l.length = 0
            · exact .inl ⟨hl0, h0⟩
            · exfalso
              obtain ⟨x, xs, rfl⟩ : ∃ x xs, l = x :: xs := by cases l with | nil => simp at hl0 | cons x xs => exact ⟨x, xs, rfl⟩
              have hx := (g2 x (by simp)).1
              simp only [List.flatten_cons, List.append_eq_nil_iff] at h0
              rw [h0.1] at hx
              have := cells_pos hp.2
              simp at hx; omega
          · obtain ⟨c, cs', hcs⟩ : ∃ c cs', l.flatten = c :: cs' := by cases hq : l.flatten with | nil => exact (h0 hq).elim | cons c cs' => exact ⟨c, cs', rfl⟩
            obtain ⟨v, hv, _⟩ := g3 0 c (by rw [hcs]; rfl)
            have hv' : w.cell? a = some v := by simpa [Addr.add] using hv
            obtain ⟨hlt, hsp⟩ := cell_lt hv'
            obtain ⟨b, o, sp⟩ := a
            simp only at hsp hlt
            subst hsp
            refine .inr ⟨b, o, rfl, hlt, PC.of fun j c hj => ?_⟩
            obtain ⟨v, hv, hp⟩ := g3 j c hj
            exact ⟨v, by simpa [addr_none] using hv, hp⟩
        · cases h
    · rename_i fs hu
      simp only [Bool.and_eq_true, beq_iff_eq, List.all_eq_true, bne_iff_ne] at hp
      replace hp := And.intro hp.1.2 hp.2
      simp only [hu] at h ⊢
      split at h
      · rename_i hl
        obtain ⟨ys, h1, h2⟩ := Option.map_eq_some_iff.1 h
        obtain ⟨xs, g1, g2⟩ := fields_of (d := d) (fun t cs y hy hp => ih d t cs y hy hp) fs.toList 0 _ ys hp.1 (fun f hf => hp.2 f hf) h1 hl (Nat.zero_le _)
        rw [List.drop_zero] at g1
        exact ⟨xs, g1, g2, by rw [g1.1, hl]⟩
      · cases h
    · rename_i n e hu
      simp only [Bool.and_eq_true, beq_iff_eq, bne_iff_ne] at hp
      replace hp := And.intro hp.1.2 hp.2
      simp only [hu] at h ⊢
      split at h
      · rename_i hl
        obtain ⟨ys, h1, h2⟩ := Option.map_eq_some_iff.1 h
        rw [List.range_eq_range'] at h1
        obtain ⟨xs, g1, g2⟩ := parts_of (d := d) (fun cs y hy => ih d _ cs y hy hp.2) n 0 ys h1 (by rw [hl, hp.1, Nat.zero_add])
        rw [Nat.zero_mul, List.drop_zero] at g1
        exact ⟨xs, g1, g2, by rw [g1.1, hl]⟩
      · cases h
    · cases hp
theorem CL.agg {xs : List AV} {cs : Array Value} (h : CL w xs cs.toList) : V2 none' (Old w) w (.agg xs) (.agg cs) := by
  simp only [V2]
  refine ⟨cs, rfl, by simpa using h.1, fun j c hj => ?_⟩
  obtain ⟨v, hv, hp⟩ := h.2 j c hj
  exact ⟨v, by simpa using hv, hp.v1⟩
theorem open_agg {r : Reach} {base n : Nat} {t : TypeId} {v : Value} {d : DataW H} {p : List MemPlace} (hs : (∃ fs, P.underlying t = some (.struct fs)) ∨ ∃ m e, P.underlying t = some (.array m e)) (hval : Value.okWide P w r base t v)
    (h : DataW.Trod enc P w 0 (fun _ => true) true t v d p) (hp : plainT P n t = true) : ∃ xs, V2 none' (Old w) w (.agg xs) v ∧ TyL P n t xs := by
  obtain ⟨fuel, hf⟩ := h
  obtain ⟨xs, h1, h2, _⟩ := open_all fuel n t _ _ hf hp
  have hv : ∃ cs, v = .agg cs := by
    unfold Value.okWide at hval
    rcases hs with ⟨fs, hs⟩ | ⟨m, e, hs⟩
    · rw [hs] at hval; exact ⟨_, hval.choose_spec.1⟩
    · rw [hs] at hval; exact ⟨_, hval.choose_spec.1⟩
  obtain ⟨cs, rfl⟩ := hv
  exact ⟨xs, CL.agg h1, h2⟩
theorem open_one {n : Nat} {t : TypeId} {v : Value} {d : DataW H} {p : List MemPlace} (hv : v.cells = #[v]) (h : DataW.Trod enc P w 0 (fun _ => true) true t v d p) (hp : plainT P n t = true) (hn : P.cellsOf t = 1) : ∃ x, P1 (Old w) w x v ∧ TyL P n t [x] := by
  obtain ⟨fuel, hf⟩ := h
  obtain ⟨xs, h1, h2, h3⟩ := open_all fuel n t _ _ hf hp
  rw [hn] at h3
  obtain ⟨x, rfl⟩ : ∃ x, xs = [x] := by match xs, h3 with | [x], _ => exact ⟨x, rfl⟩
  obtain ⟨v', hv', hp'⟩ := h1.2 0 x rfl
  rw [hv] at hv'
  simp at hv'
  subst hv'
  exact ⟨x, hp', h2⟩
theorem LR.nil {R : AV → Value → Prop} : LR R [] [] := ⟨rfl, fun j c hj => by simp at hj⟩
theorem LR.cons {R : AV → Value → Prop} {c : AV} {v : Value} {cs : List AV} {vs : List Value} (h : R c v) (k : LR R cs vs) : LR R (c :: cs) (v :: vs) := by
  refine ⟨by simp [k.1], fun j x hj => ?_⟩
  cases j with
  | zero => simp at hj; subst hj; exact ⟨v, rfl, h⟩
  | succ j => exact k.2 j x (by simpa using hj)
theorem ExtV.below {S S' : Nat → Prop} {w' : World} (X : ExtV S S' w w') : Go.RowKit.Below w.heap.size w w' := ⟨X.os, X.tape, X.output, X.size, fun k hk => X.old k hk⟩
theorem ty_struct {d : Nat} {t : TypeId} {fs : Array Field} {xs : List AV} (ht : P.underlying t = some (.struct fs)) (h : TyL P (d + 1) t xs) : TyFs (TyL P d) (fs.toList.map (·.type)) xs := by
  simp only [TyL, ht] at h; exact h
theorem ty_array {d n : Nat} {t e : TypeId} {xs : List AV} (ht : P.underlying t = some (.array n e)) (h : TyL P (d + 1) t xs) : TyFs (TyL P d) (List.replicate n e) xs := by
  simp only [TyL, ht] at h; exact h
theorem ty_slice {d : Nat} {t e : TypeId} {xs : List AV} (ht : P.underlying t = some (.slice e)) (h : TyL P (d + 1) t xs) : ∃ l : List (List AV), xs = [.row l.length l.flatten] ∧ l.length ≤ maxLen ∧ ∀ ys ∈ l, ys.length = P.cellsOf e ∧ TyL P d e ys := by
  simp only [TyL, ht] at h; exact h
theorem ty_bool {d : Nat} {t : TypeId} {xs : List AV} (ht : P.underlying t = some .bool) (h : TyL P (d + 1) t xs) : ∃ b, xs = [.bool b] := by
  simp only [TyL, ht] at h; exact h
theorem ty_int {d : Nat} {t : TypeId} {k : IntKind} {xs : List AV} (ht : P.underlying t = some (.int k)) (h : TyL P (d + 1) t xs) : ∃ n, xs = [.int k n] ∧ (Lit.int k n).wf = true := by
  simp only [TyL, ht] at h; exact h
theorem ty_str {d : Nat} {t : TypeId} {xs : List AV} (ht : P.underlying t = some .string) (h : TyL P (d + 1) t xs) : ∃ s, xs = [.str s] ∧ s.size ≤ maxLen := by
  simp only [TyL, ht] at h; exact h
/-- A row of numbers. -/
theorem ints_of {k : IntKind} : ∀ {l : List (List AV)}, (∀ ys ∈ l, ∃ n, ys = [.int k n] ∧ (Lit.int k n).wf = true) → ∃ ns : List Int, l.flatten = ns.map (.int k) ∧ l.length = ns.length ∧ ∀ n ∈ ns, (Lit.int k n).wf = true
  | [], _ => ⟨[], rfl, rfl, fun _ h => by cases h⟩
  | y :: l, h => by
    obtain ⟨n, rfl, hn⟩ := h y (by simp)
    obtain ⟨ns, e1, e2, e3⟩ := ints_of (l := l) (fun ys hy => h ys (by simp [hy]))
    exact ⟨n :: ns, by simp [e1], by simp [e2], fun m hm => by rcases List.mem_cons.1 hm with q | q; exact q ▸ hn; exact e3 m q⟩
theorem ty_row {d : Nat} {t e : TypeId} {k : IntKind} {xs : List AV} (ht : P.underlying t = some (.slice e)) (he : P.underlying e = some (.int k)) (h : TyL P (d + 2) t xs) : ∃ ns : List Int, xs = [rowI k ns] ∧ ∀ n ∈ ns, (Lit.int k n).wf = true := by
  simp only [TyL, ht, he] at h
  obtain ⟨l, rfl, _, hl⟩ := h
  obtain ⟨ns, e1, e2, e3⟩ := ints_of (k := k) (l := l) (fun ys hy => (hl ys hy).2)
  exact ⟨ns, by simp only [rowI]; rw [e1, e2], e3⟩
end
end Go.Proofs.Ytpbaloceljfaoaa.Ab
