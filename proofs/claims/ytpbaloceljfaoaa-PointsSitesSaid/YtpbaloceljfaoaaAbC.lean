/- Regions. -/
import Derived.Test.YtpbaloceljfaoaaAbB
import Derived.TacticsIn
import Derived.OrdersIn
import Derived.RangeFuncRecord
import Derived.Below
import Derived.KernelRfl
import Derived.Laws.Entries
set_option linter.unusedVariables false
set_option linter.unusedSimpArgs false
namespace Go.Proofs.Ytpbaloceljfaoaa.Ab
open Go
set_option linter.unusedSimpArgs false
set_option linter.unusedVariables false
section
variable {K S : Nat → Prop} {w : World} {ρ : Nat → Loc} {P : Program} {E : Env} {s s' : AS} {a : Act} {slot : Nat} {o : Oper} {vis : Nat → Bool}

/-- The widest fence, in a function's frame or in a round's. -/
abbrev FR (ro : Option Nat) : Fence := { Fence.wide with round := ro }
theorem callsFR {P : Program} (ro : Option Nat) {n : Nat} {f : FuncId} {args : Array Value} {w : World} {R : Ending → World → Prop} (h : Calls P f args w R) : CallsIn (FR ro) n P f args w R := (callsIn_wide (n := n)).2 h
variable {ro : Option Nat}
theorem put_dfr (a : Act) (d : Option Tmp) (v : Value) : (a.put d v).defers = a.defers := by cases d <;> rfl
/-- What some operations leave as it was. -/
structure Kp (ds : List Oper) (a a' : Act) : Prop where
  dfr : a'.defers = a.defers
  tmp : ∀ t : Nat, (∀ o ∈ ds, o.dst ≠ some t) → a'.tmps[t]? = a.tmps[t]?
theorem Kp.refl (ds : List Oper) (a : Act) : Kp ds a a := ⟨rfl, fun _ _ => rfl⟩
theorem Kp.put (a : Act) (o : Oper) (v : Value) : Kp [o] a (a.put o.dst v) := ⟨put_dfr _ _ _, fun t ht => by
  have h := ht o (by simp)
  cases hd : o.dst with
  | none => rfl
  | some d =>
    simp only [Act.put]
    exact Array.getElem?_setIfInBounds_ne (fun e => h (by rw [hd, e]))⟩
theorem Kp.trans {ds es fs : List Oper} {a b c : Act} (h : Kp ds a b) (k : Kp es b c) (hd : ∀ o ∈ ds, o ∈ fs) (he : ∀ o ∈ es, o ∈ fs) : Kp fs a c :=
  ⟨k.dfr.trans h.dfr, fun t ht => (k.tmp t (fun o ho => ht o (he o ho))).trans (h.tmp t (fun o ho => ht o (hd o ho)))⟩
theorem seen_some {vis : Nat → Bool} {h : List Blk} {i : Nat} {b : Blk} (hs : seen vis h i = some b) : vis i = true ∧ h[i]? = some b := by
  unfold seen at hs
  split at hs
  · rename_i hv; exact ⟨hv, hs⟩
  · cases hs
theorem Rel.ctx (R : Rel K ρ S s a w) (hE : EnvOk E P) : Ctx E P K ρ S s.heap s.frz w (lookA s.tmps) a.eval (seen vis s.heap) (frozenA vis s.frz) :=
  ⟨hE.eP, R.mem, R.look, fun _ => rfl, fun i b h => (seen_some h).2, fun i h => by simp only [frozenA, Bool.or_eq_false_iff] at h; exact h.2⟩
theorem Rel.put (R : Rel K ρ S s a w) {S' : Nat → Prop} {ρ' : Nat → Loc} {w' : World} {h' : List Blk} {z' : List Bool} {v : AV} {u : Value} (X : Ext K S S' ρ ρ' w w') (H : Heap K ρ' S' h' z' w') (hv : V3 ρ' S' w' v u) (dst : Option Tmp) :
    Rel K ρ' S' ⟨putT s.tmps dst v, h', z'⟩ (a.put dst u) w' := by
  have old : ∀ (t : Nat) (v : AV), s.tmps[t]? = some v → ∃ u, a.tmps[t]? = some u ∧ V3 ρ' S' w' v u := fun t v ht => let ⟨u, hu, hr⟩ := R.tmp t v ht; ⟨u, hu, hr.mono X.ss X.same X.loc⟩
  cases dst with
  | none => exact ⟨R.len, old, H, R.dfr.step X.kept X.new⟩
  | some d =>
    refine ⟨by simp [putT, Act.put, R.len], fun t v' ht => ?_, H, R.dfr.step X.kept X.new⟩
    simp only [putT, Act.put] at ht ⊢
    by_cases e : d = t
    · subst e
      rw [List.getElem?_set] at ht
      simp only [if_true] at ht
      split at ht
      · rename_i hl
        cases ht
        exact ⟨u, by rw [Array.getElem?_setIfInBounds_self_of_lt (by rw [← R.len]; exact hl)], hv⟩
      · cases ht
    · rw [List.getElem?_set_ne e] at ht
      rw [Array.getElem?_setIfInBounds_ne e]
      exact old t v' ht

theorem want_sound (R : Rel K ρ S s a w) {ops : Array Oper} {b : Bool} (h : wantA ops.toList s.tmps o = some b) : Region.wanted o (yielded ops a.tmps) = b := by
  unfold wantA at h
  unfold Region.wanted
  split at h
  · rename_i hg; simp only [hg]; simpa using h
  · rename_i j wt hg
    simp only [hg]
    unfold yielded
    have hops : ops.toList[j]? = ops[j]? := by simp
    rw [hops] at h
    split at h
    · rename_i hd; simp only [hd]; simp at h; subst h; rfl
    · rename_i d hd
      simp only [hd, Option.bind_some]
      have hl := R.look (.tmp d)
      simp only [lookA, Act.eval, Array.getD_eq_getD_getElem?] at hl
      split at h
      · rename_i c hc
        rw [hc] at hl
        have := bool_of hl
        simp at h; subst h
        cases hq : a.tmps[d]? with
        | none => rw [hq] at this; simp [Go.undef] at this
        | some u => rw [hq] at this; simp at this; subst this; rfl
      · rename_i hc
        rw [hc] at hl
        simp only [V3, V2] at hl
        simp at h; subst h
        cases hq : a.tmps[d]? with
        | none => rfl
        | some u => rw [hq] at hl; simp at hl; subst hl; rfl
      · cases h

theorem stepA_sound (R : Rel K ρ S s a w) (hE : EnvOk E P) (hslot : isAlloc E.ref o.op = true → s.heap[slot]? = some .dead) {ops : Array Oper} (hs : stepA E ops.toList vis slot o s = some s') (Q : Exit → Act → World → Prop) (next : Act → World → Prop)
    (hn : ∀ ρ' S' a' w', Rel K ρ' S' s' a' w' → Kp [o] a a' → Ext K S S' ρ ρ' w w' → next a' w') : if Region.wanted o (yielded ops a.tmps) then o.wpIn (FR ro) 0 P a w next Q else (∀ f, o.about P w a.eval = some f → (FR ro).fn f) ∧ next (a.put o.dst Go.undef) w := by
  unfold stepA at hs
  split at hs
  · cases hs
  · rename_i hw
    rw [want_sound R hw]
    simp only [Option.some.injEq] at hs; subst hs
    rw [if_neg (by simp)]
    exact ⟨fun _ _ => trivial, hn _ _ _ _ (R.put (Ext.refl _ _ _ _) R.mem (by simp only [V3, V2]) o.dst) (Kp.put _ _ _) (Ext.refl _ _ _ _)⟩
  · rename_i hw
    rw [want_sound R hw]
    split at hs
    · cases hs
    · rename_i e he
      simp only [Option.some.injEq] at hs; subst hs
      simp only [if_true]
      have h := eff_sound (R.ctx (vis := vis) hE) (fun _ => rfl) hE hslot he
      unfold Oper.wpIn
      refine ⟨fun _ _ => trivial, ?_⟩
      rw [Oper.semAt_eq _ _ _ (fun c hc => by rw [hc] at he; simp only [eff, reduceCtorEq] at he)]
      unfold OpGoal at h
      generalize (execOp a.eval o).run P w = r at h
      have fin : ∀ v w', Done K ρ S s.heap s.frz w e v w' → next (a.put o.dst v) w' := fun v w' ⟨ρ', S', X, H, hv⟩ => hn _ _ _ _ (R.put X H hv o.dst) (Kp.put _ _ _) X
      cases r with
      | ok n w' =>
        cases n <;> simp only [Outc] at h <;> first
          | exact fin _ _ h
          | exact ⟨fun q => (by cases q : 1 ≤ 0), callsFR ro (h.mono fun en w'' ⟨v, hen, hd⟩ => by subst hen; exact fin _ _ hd)⟩
          | exact h.elim
          | exact ⟨fun q => (by cases q), (callsFR ro (Calls.mono h fun en w'' hv => by obtain ⟨v, hen, hd⟩ := hv; subst hen; exact fin _ _ hd))⟩
      | halt x w' => exact h.elim

/-! What stays dead. -/
theorem setAll_ne : ∀ {ps : List (Nat × Blk)} {h : List Blk} {k : Nat}, (∀ p ∈ ps, p.1 ≠ k) → (setAll h ps)[k]? = h[k]?
  | [], _, _, _ => rfl
  | (i, b) :: r, h, k, hp => by
    rw [setAll, setAll_ne (fun p hq => hp p (List.mem_cons_of_mem _ hq)), List.getElem?_set_ne (show i ≠ k from hp (i, b) (by simp))]
theorem stepA_dead {ops : List Oper} (hs : stepA E ops vis slot o s = some s') {k : Nat} (hk : s.heap[k]? = some .dead) (hne : isAlloc E.ref o.op = true → k ≠ slot) : s'.heap[k]? = some .dead := by
  unfold stepA at hs
  split at hs
  · cases hs
  · cases hs; exact hk
  · split at hs
    · cases hs
    · rename_i e he
      cases hs
      simp only
      rw [setAll_ne, hk]
      intro p hp hpk
      have hF : ∀ f, lookA s.tmps (.func f) = .fn f := fun _ => rfl
      rcases (eff_foot hF he).keys p hp with ⟨q, ha⟩ | ⟨q, _⟩
      · exact hne ha (hpk.symm.trans q)
      · rw [hpk] at q
        cases hq : seen vis s.heap k with
        | none => rw [hq] at q; cases q
        | some b =>
          have := (seen_some hq).2
          rw [hk] at this; cases this
          rw [hq] at q; cases q

/-! A region in the order of its text. -/
theorem runL_sound (hE : EnvOk E P) {ops : Array Oper} {Q : Exit → Act → World → Prop} : ∀ (r : List Oper) (slot : Nat) (s : AS) (a : Act) (w : World) (ρ : Nat → Loc) (S : Nat → Prop), runL E ops.toList slot r s = some s' → Rel K ρ S s a w →
    (∀ k, slot ≤ k → k < slot + nAlloc E.ref r → s.heap[k]? = some .dead) → (∀ ρ' S' a' w', Rel K ρ' S' s' a' w' → Kp r a a' → Ext K S S' ρ ρ' w w' → Q .normal a' w') → wpListIn (FR ro) 0 P ops Q r a w
  | [], slot, s, a, w, ρ, S, hr, R, hd, hq => by
    simp only [runL, Option.some.injEq] at hr; subst hr
    exact hq _ _ _ _ R (Kp.refl _ _) (Ext.refl _ _ _ _)
  | o :: r, slot, s, a, w, ρ, S, hr, R, hd, hq => by
    simp only [runL] at hr
    split at hr
    · cases hr
    · rename_i s1 hs
      have h := stepA_sound (Q := Q) (ro := ro) (next := wpListIn (FR ro) 0 P ops Q r) R hE (fun ha => hd slot (Nat.le_refl _) (by simp only [nAlloc, ha, if_true]; omega)) hs (fun ρ' S' a' w' R' hdf X => by
        refine runL_sound hE r _ s1 a' w' ρ' S' hr R' (fun k hk1 hk2 => ?_) (fun ρ'' S'' a'' w'' R'' hdf' X'' => hq _ _ _ _ R'' (hdf.trans hdf' (by simp) (fun o' ho' => List.mem_cons_of_mem _ ho')) (X.trans X''))
        by_cases ha : isAlloc E.ref o.op = true
        · rw [if_pos ha] at hk1 hk2
          exact stepA_dead hs (hd k (by omega) (by simp only [nAlloc, ha, if_true]; omega)) (fun _ => by omega)
        · rw [if_neg ha] at hk1 hk2
          exact stepA_dead hs (hd k (by omega) (by simp only [nAlloc, ha, if_false]; omega)) (fun q => (ha q).elim))
      unfold wpListIn; exact h
end
/- Regions that draw their order. -/

/-- What an operation would do, without its being done. -/
def deltaA (E : Env) (ops : List Oper) (vis : Nat → Bool) (slot : Nat) (o : Oper) (s : AS) : Option (Option Eff) :=
  match wantA ops s.tmps o with
  | none => none
  | some false => some none
  | some true => match eff E (lookA s.tmps) (seen vis s.heap) (frozenA vis s.frz) slot o.op with
    | none => none
    | some e => some (some e)
def applyA (dst : Option Tmp) (s : AS) : Option Eff → AS
  | none => { s with tmps := putT s.tmps dst .undef }
  | some e => { tmps := putT s.tmps dst e.v, heap := setAll s.heap e.sets, frz := frzAll s.frz e.frs }
theorem stepA_delta (E : Env) (ops : List Oper) (vis : Nat → Bool) (slot : Nat) (o : Oper) (s : AS) : stepA E ops vis slot o s = (deltaA E ops vis slot o s).map (applyA o.dst s) := by
  unfold stepA deltaA
  cases wantA ops s.tmps o with
  | none => rfl
  | some b =>
    cases b with
    | false => rfl
    | true =>
      simp only
      cases eff E (lookA s.tmps) (seen vis s.heap) (frozenA vis s.frz) slot o.op <;> rfl

section
variable {E : Env} {ops : List Oper} {vis : Nat → Bool} {slot : Nat} {o : Oper} {s t : AS}

/-- Two states in which an operation does the same. -/
structure Same (E : Env) (ops : List Oper) (vis : Nat → Bool) (o : Oper) (s t : AS) : Prop where
  tmp : ∀ d ∈ o.looksAt ops.toArray, s.tmps.getD d .undef = t.tmps.getD d .undef
  heap : (cls E.ref o.op = .n ∨ cls E.ref o.op = .a ∨ seen vis s.heap = seen vis t.heap) ∧ (cls E.ref o.op ≠ .w ∨ frozenA vis s.frz = frozenA vis t.frz) ∨
    isRefC E.ref o.op = false ∧ (∀ id ∈ footA (lookA t.tmps) o.op, seen vis s.heap id = seen vis t.heap id) ∧ (∀ id ∈ footA (lookA t.tmps) o.op, frozenA vis s.frz id = frozenA vis t.frz id)
theorem Same.look (h : Same E ops vis o s t) : ∀ x ∈ o.op.operands, lookA s.tmps x = lookA t.tmps x := by
  intro x hx
  cases x with
  | tmp d =>
    refine h.tmp d ?_
    unfold Oper.looksAt
    rw [List.mem_append]; left
    rw [List.mem_filterMap]
    exact ⟨.tmp d, by simpa using hx, rfl⟩
  | _ => rfl
theorem Same.foot (h : Same E ops vis o s t) : footA (lookA s.tmps) o.op = footA (lookA t.tmps) o.op := by
  unfold footA
  have : ∀ (l : List Operand), (∀ x ∈ l, lookA s.tmps x = lookA t.tmps x) → l.flatMap (fun x => idsV (lookA s.tmps x)) = l.flatMap (fun x => idsV (lookA t.tmps x)) := by
    intro l
    induction l with
    | nil => intro _; rfl
    | cons x r ih => intro h; rw [List.flatMap_cons, List.flatMap_cons, h x (by simp), ih (fun y hy => h y (by simp [hy]))]
  exact this _ (fun x hx => h.look x (by simpa using hx))
theorem delta_same (h : Same E ops vis o s t) : deltaA E ops vis slot o s = deltaA E ops vis slot o t := by
  have hw : wantA ops s.tmps o = wantA ops t.tmps o := by
    unfold wantA
    split
    · rfl
    · rename_i j b hg
      split
      · rfl
      · rename_i d hd
        rw [h.tmp d]
        have hd' : (ops.toArray[j]?).bind (·.dst) = some d := by simpa using hd
        simp [Oper.looksAt, hg]
        right
        exact hd
  have he : eff E (lookA s.tmps) (seen vis s.heap) (frozenA vis s.frz) slot o.op = eff E (lookA t.tmps) (seen vis t.heap) (frozenA vis t.frz) slot o.op := by
    rw [eff_congr h.look]
    rcases h.heap with ⟨q, r⟩ | ⟨q, r1, r2⟩
    · rcases q with q | q | q
      · exact eff_n (.inl q)
      · exact eff_n (.inr q)
      · rw [q]
        rcases r with r | r
        · exact eff_h (fun _ => rfl) r
        · rw [r]
    · exact eff_local (fun _ => rfl) q r1 r2
  unfold deltaA
  rw [hw, he]

theorem frz_set_comm (z : List Bool) (i j : Nat) : (z.set i true).set j true = (z.set j true).set i true := by
  by_cases h : i = j
  · subst h; rfl
  · exact List.set_comm _ _ h
theorem frzAll_set : ∀ (f : List Nat) (z : List Bool) (i : Nat), frzAll (z.set i true) f = (frzAll z f).set i true
  | [], _, _ => rfl
  | j :: r, z, i => by rw [frzAll, frz_set_comm, frzAll_set r, frzAll]
theorem frzAll_comm : ∀ (f g : List Nat) (z : List Bool), frzAll (frzAll z f) g = frzAll (frzAll z g) f
  | [], _, _ => rfl
  | i :: r, g, z => by rw [frzAll, frzAll_comm r g, frzAll, frzAll_set]
theorem setAll_set : ∀ (ps : List (Nat × Blk)) (h : List Blk) (i : Nat) (b : Blk), (∀ p ∈ ps, p.1 ≠ i) → setAll (h.set i b) ps = (setAll h ps).set i b
  | [], _, _, _, _ => rfl
  | (j, c) :: r, h, i, b, hp => by
    rw [setAll, List.set_comm _ _ (Ne.symm (hp (j, c) (by simp))), setAll_set r _ _ _ (fun p hq => hp p (List.mem_cons_of_mem _ hq)), setAll]
theorem setAll_comm : ∀ (ps qs : List (Nat × Blk)) (h : List Blk), (∀ p ∈ ps, ∀ q ∈ qs, p.1 ≠ q.1) → setAll (setAll h ps) qs = setAll (setAll h qs) ps
  | [], _, _, _ => rfl
  | (i, b) :: r, qs, h, hp => by
    rw [setAll, setAll_comm r qs _ (fun p hq => hp p (List.mem_cons_of_mem _ hq)), setAll_set qs h i b (fun q hq => (hp (i, b) (by simp) q hq).symm), setAll]
theorem putT_comm (tm : List AV) {x y : Option Tmp} (v u : AV) (h : ∀ d, x = some d → y ≠ some d) : putT (putT tm x v) y u = putT (putT tm y u) x v := by
  cases x with
  | none => cases y <;> rfl
  | some d =>
    cases y with
    | none => rfl
    | some e => simp only [putT]; exact List.set_comm _ _ (fun q => h d rfl (by rw [q]))
theorem putT_getD (tm : List AV) {x : Option Tmp} (v : AV) {d : Nat} (h : x ≠ some d) : (putT tm x v).getD d .undef = tm.getD d .undef := by
  cases x with
  | none => rfl
  | some e => simp only [putT, List.getD_eq_getElem?_getD]; rw [List.getElem?_set_ne (fun q => h (by rw [q]))]

/-- What an operation may write, given what is dead. -/
theorem delta_keys {e : Eff} (h : deltaA E ops vis slot o s = some (some e)) : Foot E (seen vis s.heap) slot o.op e := by
  unfold deltaA at h
  split at h
  · cases h
  · cases h
  · split at h
    · cases h
    · cases h; rename_i he; exact eff_foot (fun _ => rfl) he

theorem delta_keys2 {e : Eff} (h : deltaA E ops vis slot o s = some (some e)) (hr : isRefC E.ref o.op = false) : (∀ p ∈ e.sets, (p.1 = slot ∧ isAlloc E.ref o.op = true) ∨ p.1 ∈ footA (lookA s.tmps) o.op) ∧ ∀ i ∈ e.frs, i ∈ footA (lookA s.tmps) o.op := by
  unfold deltaA at h
  split at h
  · cases h
  · cases h
  · split at h
    · cases h
    · cases h; rename_i he; exact eff_foot2 (fun _ => rfl) hr he
theorem disj_spec {l m : List Nat} (h : disj l m = true) : ∀ i ∈ l, i ∉ m := fun i hi hm => by
  have := List.all_eq_true.1 h i hi
  rw [List.contains_iff_mem.2 hm] at this; simp at this

/-- Of two operations that get along the later one may be done first. -/
theorem swap {o1 o2 : Oper} {v1 v2 : Nat → Bool} {k1 k2 : Nat} {s1 s2 : AS} (hap : Oper.apart ops.toArray o1 o2 = true) (hp : clash (cls E.ref o1.op) (cls E.ref o2.op) = false ∨ isRefC E.ref o1.op = false ∧ isRefC E.ref o2.op = false ∧ disj (footA (lookA s.tmps) o1.op) (footA (lookA s.tmps) o2.op) = true) (hk : isAlloc E.ref o1.op = true → isAlloc E.ref o2.op = true → k1 ≠ k2)
    (hd1 : isAlloc E.ref o1.op = true → s.heap[k1]? = some .dead ∧ v2 k1 = false) (hd2 : isAlloc E.ref o2.op = true → s.heap[k2]? = some .dead ∧ v1 k2 = false)
    (h1 : stepA E ops v1 k1 o1 s = some s1) (h2 : stepA E ops v2 k2 o2 s1 = some s2) : ∃ s', stepA E ops v2 k2 o2 s = some s' ∧ stepA E ops v1 k1 o1 s' = some s2 ∧ footA (lookA s'.tmps) o1.op = footA (lookA s.tmps) o1.op := by
  obtain ⟨a1, a2, a3⟩ := Oper.apart_spec hap
  rw [stepA_delta] at h1 h2
  obtain ⟨d1, e1, rfl⟩ := Option.map_eq_some_iff.1 h1
  obtain ⟨d2, e2, rfl⟩ := Option.map_eq_some_iff.1 h2
  -- what an operation leaves as it was, for another
  have frame : ∀ {x y : Oper} {vx vy : Nat → Bool} {kx : Nat} {d : Option Eff}, deltaA E ops vx kx x s = some d → (∀ d, x.dst = some d → d ∉ y.looksAt ops.toArray) →
      (clash (cls E.ref x.op) (cls E.ref y.op) = false ∨ isRefC E.ref x.op = false ∧ isRefC E.ref y.op = false ∧ ∀ i ∈ footA (lookA s.tmps) x.op, i ∉ footA (lookA s.tmps) y.op) →
      (isAlloc E.ref x.op = true → vy kx = false) → Same E ops vy y (applyA x.dst s d) s := by
    intro x y vx vy kx d hd hl hc hv
    have htm : ∀ d' ∈ y.looksAt ops.toArray, (applyA x.dst s d).tmps.getD d' .undef = s.tmps.getD d' .undef := by
      intro d' hd'
      cases d with
      | none => exact putT_getD _ _ (fun q => hl d' q hd')
      | some e => exact putT_getD _ _ (fun q => hl d' q hd')
    cases d with
    | none => exact ⟨htm, .inl ⟨.inr (.inr rfl), .inr rfl⟩⟩
    | some e =>
      have F := delta_keys hd
      refine ⟨htm, ?_⟩
      rcases hc with hc | ⟨hrx, hry, hdj⟩
      · left
        constructor
        · by_cases hx : cls E.ref x.op = .w
          · rw [hx] at hc
            cases hy : cls E.ref y.op <;> rw [hy] at hc <;> simp [clash] at hc
            · exact .inl rfl
            · exact .inr (.inl rfl)
          · refine .inr (.inr (funext fun i => ?_))
            simp only [applyA, seen]
            split
            · rename_i hvi
              refine setAll_ne fun p hp q => ?_
              rcases F.keys p hp with ⟨r, ha⟩ | ⟨_, r⟩
              · rw [← q, r, hv ha] at hvi; cases hvi
              · exact hx r
            · rfl
        · by_cases hy : cls E.ref y.op = .w
          · rw [hy] at hc
            have : cls E.ref x.op = .n ∨ cls E.ref x.op = .a := by
              cases hx : cls E.ref x.op <;> rw [hx] at hc <;> simp [clash] at hc
              · exact .inl rfl
              · exact .inr rfl
            right
            simp only [applyA, F.frs this, frzAll]
          · exact .inl hy
      · right
        obtain ⟨F2, F3⟩ := delta_keys2 hd hrx
        refine ⟨hry, fun i hi => ?_, fun i hi => ?_⟩
        · simp only [applyA, seen]
          split
          · rename_i hvi
            refine setAll_ne fun p hp q => ?_
            rcases F2 p hp with ⟨r, ha⟩ | r2
            · rw [← q, r, hv ha] at hvi; cases hvi
            · exact hdj _ r2 (q ▸ hi)
          · rfl
        · simp only [applyA, frozenA]
          rw [frzAll_not]
          intro hm
          exact hdj i (F3 i hm) hi
  have hp1 : clash (cls E.ref o1.op) (cls E.ref o2.op) = false ∨ isRefC E.ref o1.op = false ∧ isRefC E.ref o2.op = false ∧ ∀ i ∈ footA (lookA s.tmps) o1.op, i ∉ footA (lookA s.tmps) o2.op := hp.imp id fun q => ⟨q.1, q.2.1, disj_spec q.2.2⟩
  have hp2 : clash (cls E.ref o2.op) (cls E.ref o1.op) = false ∨ isRefC E.ref o2.op = false ∧ isRefC E.ref o1.op = false ∧ ∀ i ∈ footA (lookA s.tmps) o2.op, i ∉ footA (lookA s.tmps) o1.op := by
    rcases hp1 with q | ⟨q1, q2, q3⟩
    · left; revert q; cases cls E.ref o1.op <;> cases cls E.ref o2.op <;> simp [clash]
    · exact .inr ⟨q2, q1, fun i hi hm => q3 i hm hi⟩
  have f1 := frame (vy := v2) e1 (fun d hd => a1 d hd) hp1 (fun ha => (hd1 ha).2)
  have e2' : deltaA E ops v2 k2 o2 s = some d2 := by rw [← delta_same f1]; exact e2
  have f2 := frame (vy := v1) e2' (fun d hd => a3 d hd) hp2 (fun ha => (hd2 ha).2)
  have e1' : deltaA E ops v1 k1 o1 (applyA o2.dst s d2) = some d1 := by rw [delta_same f2]; exact e1
  refine ⟨applyA o2.dst s d2, by rw [stepA_delta, e2']; rfl, ?_, f2.foot⟩
  rw [stepA_delta, e1']
  simp only [Option.map_some, Option.some.injEq]
  have hne : ∀ d, o2.dst = some d → o1.dst ≠ some d := fun d hd h => a2 d h hd
  cases d1 with
  | none =>
    cases d2 with
    | none => simp only [applyA, putT_comm _ _ _ hne]
    | some f => simp only [applyA, putT_comm _ _ _ hne]
  | some e =>
    cases d2 with
    | none => simp only [applyA, putT_comm _ _ _ hne]
    | some f =>
      have F1 := delta_keys e1
      have F2 := delta_keys e2'
      have dead_live : ∀ {v : Nat → Bool} {k : Nat}, s.heap[k]? = some .dead → liveB (seen v s.heap k) = false := by
        intro v k hk
        simp only [seen, hk]
        split <;> rfl
      simp only [applyA, putT_comm _ _ _ hne, frzAll_comm e.frs f.frs]
      rw [setAll_comm e.sets f.sets]
      intro p hp q hq hpq
      rcases F1.keys p hp with ⟨r1, b1⟩ | ⟨r1, b1⟩ <;> rcases F2.keys q hq with ⟨r2, b2⟩ | ⟨r2, b2⟩
      · exact hk b1 b2 (by rw [← r1, ← r2, hpq])
      · rw [← hpq, r1, dead_live (hd1 b1).1] at r2; cases r2
      · rw [hpq, r2, dead_live (hd2 b2).1] at r1; cases r1
      · rcases hp1 with hcl | ⟨q1, q2, q3⟩
        · rw [b1, b2] at hcl; simp [clash] at hcl
        · rcases (delta_keys2 e1 q1).1 p hp with ⟨r3, b3⟩ | r3
          · rw [r3, dead_live (hd1 b3).1] at r1; cases r1
          · rcases (delta_keys2 e2' q2).1 q hq with ⟨r4, b4⟩ | r4
            · rw [r4, dead_live (hd2 b4).1] at r2; cases r2
            · exact q3 _ r3 (hpq ▸ r4)
end
/- Regions that draw their order: any order that waits where it must. -/

/-! Slots and waits. -/
theorem slotsOf_length (ref : FuncId → Bool) : ∀ (ops : List Oper) (k : Nat), (slotsOf ref k ops).length = ops.length
  | [], _ => rfl
  | o :: r, k => by simp [slotsOf, slotsOf_length ref r]
theorem slotsOf_ge (ref : FuncId → Bool) : ∀ (ops : List Oper) (k i x : Nat), (slotsOf ref k ops)[i]? = some x → k ≤ x
  | [], _, _, _, h => by simp [slotsOf] at h
  | o :: r, k, 0, x, h => by simp [slotsOf] at h; omega
  | o :: r, k, i + 1, x, h => by
    simp only [slotsOf, List.getElem?_cons_succ] at h
    have := slotsOf_ge ref r _ i x h
    split at this <;> omega
theorem slotsOf_lt (ref : FuncId → Bool) : ∀ (ops : List Oper) (k i x : Nat) (o : Oper), (slotsOf ref k ops)[i]? = some x → ops[i]? = some o → isAlloc ref o.op = true → x < k + nAlloc ref ops
  | [], _, _, _, _, h, _, _ => by simp [slotsOf] at h
  | o :: r, k, 0, x, o', h, ho, ha => by
    simp [slotsOf] at h; simp at ho; subst ho; subst h
    simp only [nAlloc, ha, if_true]; omega
  | o :: r, k, i + 1, x, o', h, ho, ha => by
    simp only [slotsOf, List.getElem?_cons_succ] at h
    have := slotsOf_lt ref r _ i x o' h (by simpa using ho) ha
    simp only [nAlloc]
    split at this <;> rename_i q <;> simp only [q, if_true, if_false] <;> omega
theorem slotsOf_inj (ref : FuncId → Bool) : ∀ (ops : List Oper) (k i j x y : Nat) (o : Oper), (slotsOf ref k ops)[i]? = some x → (slotsOf ref k ops)[j]? = some y → ops[i]? = some o → isAlloc ref o.op = true → i < j → x < y
  | [], _, _, _, _, _, _, h, _, _, _, _ => by simp [slotsOf] at h
  | o :: r, k, 0, j, x, y, o', hi, hj, ho, ha, hij => by
    cases j with
    | zero => omega
    | succ j =>
      simp [slotsOf] at hi; simp at ho; subst ho; subst hi
      simp only [slotsOf, ha, if_true, List.getElem?_cons_succ] at hj
      have := slotsOf_ge ref r _ j y hj; omega
  | o :: r, k, i + 1, j, x, y, o', hi, hj, ho, ha, hij => by
    cases j with
    | zero => omega
    | succ j =>
      simp only [slotsOf, List.getElem?_cons_succ] at hi hj
      exact slotsOf_inj ref r _ i j x y o' hi hj (by simpa using ho) ha (by omega)

theorem closureL_keep : ∀ (r : List Oper) (acc : List (List Nat)) (i : Nat), i < acc.length → (closureL acc r).getD i [] = acc.getD i []
  | [], _, _, _ => rfl
  | o :: r, acc, i, h => by
    rw [closureL, closureL_keep r _ i (by simp; omega)]
    simp [List.getD_eq_getElem?_getD, List.getElem?_append, h]
theorem addNew_mem : ∀ (r acc : List Nat) (i : Nat), i ∈ addNew acc r → i ∈ acc ∨ i ∈ r
  | [], acc, i, h => .inl h
  | j :: r, acc, i, h => by
    rw [addNew] at h
    rcases addNew_mem r _ i h with q | q
    · split at q
      · exact .inl q
      · rcases List.mem_append.1 q with q | q
        · exact .inl q
        · simp at q; exact .inr (by simp [q])
    · exact .inr (List.mem_cons_of_mem _ q)
theorem closureL_get : ∀ (r : List Oper) (acc : List (List Nat)) (t : Nat) (o : Oper), r[t]? = some o → (∀ p ∈ predsOf o, p < acc.length + t) → ∀ j ∈ (closureL acc r).getD (acc.length + t) [], j ∈ predsOf o ∨ ∃ p ∈ predsOf o, j ∈ (closureL acc r).getD p []
  | [], _, _, _, h, _, _, _ => by simp at h
  | o :: r, acc, 0, o', h, hp, j, hj => by
    simp at h; subst h
    rw [closureL, Nat.add_zero, closureL_keep r _ _ (by simp)] at hj
    simp only [List.getD_eq_getElem?_getD, List.getElem?_append_right (Nat.le_refl _), Nat.sub_self, List.getElem?_cons_zero, Option.getD_some] at hj
    rcases addNew_mem _ _ _ hj with q | q
    · simp at q
    · rcases List.mem_append.1 q with q | q
      · exact .inl q
      · obtain ⟨p, hp1, hp2⟩ := List.mem_flatMap.1 q
        refine .inr ⟨p, hp1, ?_⟩
        rw [closureL, closureL_keep r _ _ (by have := hp p hp1; simp; omega)]
        have hl := hp p hp1
        rw [Nat.add_zero] at hl
        simp only [List.getD_eq_getElem?_getD, List.getElem?_append, hl, if_true] at hp2 ⊢
        exact hp2
  | o :: r, acc, t + 1, o', h, hp, j, hj => by
    rw [closureL] at hj ⊢
    have e : acc.length + (t + 1) = (acc ++ [addNew [] (predsOf o ++ (predsOf o).flatMap fun j => acc.getD j [])]).length + t := by simp; omega
    rw [e] at hj
    exact closureL_get r _ t o' (by simpa using h) (fun p hq => by have := hp p hq; omega) j hj

/-- What okR says. -/
structure Plan (ref : FuncId → Bool) (ops : List Oper) (dep : List (List Nat × List Nat × Bool)) : Prop where
  preds : ∀ (i : Nat) (o : Oper), ops[i]? = some o → ∀ p ∈ predsOf o, p < i
  pair : ∀ (i j : Nat) (o o' : Oper), ops[i]? = some o → ops[j]? = some o' → j < i → j ∈ (closureL [] ops).getD i [] ∨ pairOk ref ops o' o = true ∨ (Oper.apart ops.toArray o' o = true ∧ isRefC ref o.op = false ∧ isRefC ref o'.op = false ∧ j ∈ (dep.getD i ([], [], false)).2.1 ∧ (dep.getD j ([], [], false)).2.2 = true)
  deps : ∀ (i : Nat) (o : Oper), ops[i]? = some o → ∀ x ∈ (dep.getD i ([], [], false)).1, ∃ j ∈ (closureL [] ops).getD i [], (slotsOf ref 0 ops).getD j 0 = x ∧ ∃ o', ops[j]? = some o' ∧ isAlloc ref o'.op = true
theorem okR_plan {ref : FuncId → Bool} {ops : List Oper} {dep : List (List Nat × List Nat × Bool)} (h : okR ref ops dep = true) : Plan ref ops dep := by
  unfold okR at h
  have key : ∀ (i : Nat) (o : Oper), ops[i]? = some o → _ := fun i o hi => by
    have := List.all_eq_true.1 h i (List.mem_range.2 (List.getElem?_eq_some_iff.1 hi).1)
    simp only [hi, Bool.and_eq_true] at this
    exact this
  refine ⟨fun i o hi p hp => ?_, fun i j o o' hi hj hji => ?_, fun i o hi x hx => ?_⟩
  · exact of_decide_eq_true (List.all_eq_true.1 (key i o hi).1.1 p hp)
  · have := List.all_eq_true.1 (key i o hi).1.2 j (List.mem_range.2 hji)
    simp only [hj, Bool.or_eq_true, Bool.and_eq_true, Bool.not_eq_true'] at this
    exact this.imp (fun q => List.contains_iff_mem.1 q) (fun q => q.imp id fun q => ⟨q.1.1.1.1, q.1.1.1.2, q.1.1.2, List.contains_iff_mem.1 q.1.2, q.2⟩)
  · have := List.all_eq_true.1 (key i o hi).2 x hx
    obtain ⟨j, hj, hq⟩ := List.any_eq_true.1 this
    simp only [Bool.and_eq_true, beq_iff_eq] at hq
    refine ⟨j, hj, hq.1, ?_⟩
    cases ho : ops[j]? with
    | none => rw [ho] at hq; simp at hq
    | some o' => rw [ho] at hq; exact ⟨o', rfl, hq.2⟩
theorem Plan.lt {ref : FuncId → Bool} {ops : List Oper} {dep : List (List Nat × List Nat × Bool)} (H : Plan ref ops dep) : ∀ (i : Nat) (o : Oper), ops[i]? = some o → ∀ j ∈ (closureL [] ops).getD i [], j < i := by
  intro i
  induction i using Nat.strongRecOn with
  | _ i ih =>
    intro o hi j hj
    have hp := H.preds i o hi
    have := closureL_get ops [] i o hi (by simpa using hp) j (by simpa using hj)
    rcases this with q | ⟨p, hp1, hp2⟩
    · exact hp j q
    · have hpi := hp p hp1
      have hpl : p < ops.length := by have := (List.getElem?_eq_some_iff.1 hi).1; omega
      have := ih p hpi _ (List.getElem?_eq_getElem hpl) j hp2
      omega
theorem Plan.listed {ref : FuncId → Bool} {ops : List Oper} {dep : List (List Nat × List Nat × Bool)} (H : Plan ref ops dep) {L : Nat → Prop} (hL : ∀ (i : Nat) (o : Oper), ops[i]? = some o → L i → ∀ p ∈ predsOf o, L p) :
    ∀ (i : Nat) (o : Oper), ops[i]? = some o → (∀ p ∈ predsOf o, L p) → ∀ j ∈ (closureL [] ops).getD i [], L j := by
  intro i
  induction i using Nat.strongRecOn with
  | _ i ih =>
    intro o hi hp j hj
    have hpl := H.preds i o hi
    have := closureL_get ops [] i o hi (by simpa using hpl) j (by simpa using hj)
    rcases this with q | ⟨p, hp1, hp2⟩
    · exact hp j q
    · have hpi := hpl p hp1
      have hpn : p < ops.length := by have := (List.getElem?_eq_some_iff.1 hi).1; omega
      have ho := List.getElem?_eq_getElem hpn
      exact ih p hpi _ ho (hL p _ ho (hp p hp1)) j hp2

section
variable {E : Env} {ops : List Oper} {dep : List (List Nat × List Nat × Bool)} {n0 : Nat}
/-- The operation of a number. -/
def stepI (E : Env) (ops : List Oper) (dep : List (List Nat × List Nat × Bool)) (n0 i : Nat) (s : AS) : Option AS :=
  match ops[i]? with
  | none => none
  | some o => stepA E ops (visD n0 (dep.getD i ([], [], false)).1) (n0 + (slotsOf E.ref 0 ops).getD i 0) o s
def footI (ops : List Oper) (i : Nat) (s : AS) : List Nat := match ops[i]? with | some o => footA (lookA s.tmps) o.op | none => []
def noteI (ops : List Oper) (dep : List (List Nat × List Nat × Bool)) (i : Nat) (s : AS) (log : List (Nat × List Nat)) : List (Nat × List Nat) := if (dep.getD i ([], [], false)).2.2 then (i, footI ops i s) :: log else log
def runI (E : Env) (ops : List Oper) (dep : List (List Nat × List Nat × Bool)) (n0 : Nat) : List Nat → List (Nat × List Nat) → AS → Option AS
  | [], _, s => some s
  | i :: r, log, s => if heldOk log (dep.getD i ([], [], false)).2.1 (footI ops i s) then (match stepI E ops dep n0 i s with
    | none => none
    | some s' => runI E ops dep n0 r (noteI ops dep i s log) s') else none
theorem heldOk_mono {log log' : List (Nat × List Nat)} {chk f : List Nat} (h : ∀ p ∈ log', p ∈ log) (hk : heldOk log chk f = true) : heldOk log' chk f = true :=
  List.all_eq_true.2 fun p hp => List.all_eq_true.1 hk p (h p hp)
theorem runI_mono : ∀ (r : List Nat) (log log' : List (Nat × List Nat)) (s sF : AS), (∀ p ∈ log', p ∈ log) → runI E ops dep n0 r log s = some sF → runI E ops dep n0 r log' s = some sF
  | [], _, _, _, _, _, h => h
  | i :: r, log, log', s, sF, hl, h => by
    simp only [runI] at h ⊢
    split at h
    · rename_i hk
      rw [if_pos (heldOk_mono hl hk)]
      split at h
      · cases h
      · rename_i s' hs
        refine runI_mono r _ _ s' sF (fun p hp => ?_) h
        unfold noteI at hp ⊢
        split
        · rename_i hf; rw [if_pos hf] at hp
          rcases List.mem_cons.1 hp with q | q
          · exact List.mem_cons.2 (.inl q)
          · exact List.mem_cons.2 (.inr (hl p q))
        · rename_i hf; rw [if_neg hf] at hp; exact hl p hp
    · cases h
theorem foot_step {vis : Nat → Bool} {slot : Nat} {o1 o2 : Oper} {s s1 : AS} (h : stepA E ops vis slot o1 s = some s1) (hl : ∀ d, o1.dst = some d → d ∉ o2.looksAt ops.toArray) : footA (lookA s1.tmps) o2.op = footA (lookA s.tmps) o2.op := by
  rw [stepA_delta] at h
  obtain ⟨d, e1, rfl⟩ := Option.map_eq_some_iff.1 h
  have htm : ∀ d' ∈ o2.looksAt ops.toArray, (applyA o1.dst s d).tmps.getD d' .undef = s.tmps.getD d' .undef := by
    intro d' hd'
    cases d with
    | none => exact putT_getD _ _ (fun q => hl d' q hd')
    | some e => exact putT_getD _ _ (fun q => hl d' q hd')
  have : ∀ (l : List Operand), (∀ x ∈ l, lookA (applyA o1.dst s d).tmps x = lookA s.tmps x) → l.flatMap (fun x => idsV (lookA (applyA o1.dst s d).tmps x)) = l.flatMap (fun x => idsV (lookA s.tmps x)) := by
    intro l
    induction l with
    | nil => intro _; rfl
    | cons x r ih => intro h; rw [List.flatMap_cons, List.flatMap_cons, h x (by simp), ih (fun y hy => h y (by simp [hy]))]
  refine this _ fun x hx => ?_
  cases x with
  | tmp d' =>
    refine htm d' ?_
    unfold Oper.looksAt
    rw [List.mem_append]; left
    rw [List.mem_filterMap]
    exact ⟨.tmp d', by simpa using hx, rfl⟩
  | _ => rfl
/-- Slots of what is not done yet are free. -/
def DeadI (E : Env) (ops : List Oper) (n0 : Nat) (l : List Nat) (s : AS) : Prop := ∀ i ∈ l, ∀ o, ops[i]? = some o → isAlloc E.ref o.op = true → s.heap[n0 + (slotsOf E.ref 0 ops).getD i 0]? = some .dead
theorem slot_get {i : Nat} {o : Oper} (h : ops[i]? = some o) : (slotsOf E.ref 0 ops)[i]? = some ((slotsOf E.ref 0 ops).getD i 0) := by
  have hl := (List.getElem?_eq_some_iff.1 h).1
  rw [← slotsOf_length E.ref ops 0] at hl
  simp [List.getD_eq_getElem?_getD, List.getElem?_eq_getElem hl]
theorem slot_ne {i j : Nat} {o o' : Oper} (hi : ops[i]? = some o) (hj : ops[j]? = some o') (hai : isAlloc E.ref o.op = true) (haj : isAlloc E.ref o'.op = true) (hne : i ≠ j) : (slotsOf E.ref 0 ops).getD i 0 ≠ (slotsOf E.ref 0 ops).getD j 0 := by
  rcases Nat.lt_or_gt_of_ne hne with h | h
  · have := slotsOf_inj E.ref ops 0 i j _ _ o (slot_get hi) (slot_get hj) hi hai h; omega
  · have := slotsOf_inj E.ref ops 0 j i _ _ o' (slot_get hj) (slot_get hi) hj haj h; omega
theorem stepI_dead {i : Nat} {l : List Nat} {s s' : AS} (hs : stepI E ops dep n0 i s = some s') (hd : DeadI E ops n0 l s) (hi : i ∉ l) : DeadI E ops n0 l s' := by
  intro j hj o ho ha
  unfold stepI at hs
  split at hs
  · cases hs
  · rename_i o' ho'
    refine stepA_dead hs (hd j hj o ho ha) (fun ha' q => ?_)
    have hne : j ≠ i := fun e => hi (e ▸ hj)
    exact slot_ne ho ho' ha ha' hne (by omega)

theorem move_first (H : Plan E.ref ops dep) {i : Nat} {post : List Nat} {sF : AS} : ∀ (pre : List Nat) (log : List (Nat × List Nat)) (s : AS), (∀ y ∈ pre, y < i ∧ y ∉ (closureL [] ops).getD i []) → (pre ++ i :: post).Nodup → DeadI E ops n0 (pre ++ i :: post) s →
    runI E ops dep n0 (pre ++ i :: post) log s = some sF → ∃ s', stepI E ops dep n0 i s = some s' ∧ heldOk log (dep.getD i ([], [], false)).2.1 (footI ops i s) = true ∧ runI E ops dep n0 (pre ++ post) log s' = some sF
  | [], log, s, _, _, _, hr => by
    simp only [List.nil_append, runI] at hr ⊢
    split at hr
    · rename_i hk
      split at hr
      · cases hr
      · rename_i s' hs
        refine ⟨s', hs, hk, runI_mono _ _ _ _ _ (fun p hp => ?_) hr⟩
        unfold noteI; split
        · exact List.mem_cons_of_mem _ hp
        · exact hp
    · cases hr
  | y :: pre, log, s, hp, hn, hd, hr => by
    simp only [List.cons_append, runI] at hr ⊢
    split at hr
    · rename_i hky
      split at hr
      · cases hr
      · rename_i s1 hs1
        simp only [List.cons_append, List.nodup_cons] at hn
        have hd1 : DeadI E ops n0 (pre ++ i :: post) s1 := stepI_dead hs1 (fun j hj => hd j (List.mem_cons_of_mem _ hj)) hn.1
        obtain ⟨s2, h2, hk2, h3⟩ := move_first H pre _ s1 (fun z hz => hp z (List.mem_cons_of_mem _ hz)) hn.2 hd1 hr
        obtain ⟨hyi, hyB⟩ := hp y (by simp)
        have hs1' := hs1
        have h2' := h2
        unfold stepI at hs1 h2
        cases hoy : ops[y]? with
        | none => rw [hoy] at hs1; cases hs1
        | some oy =>
          cases hoi : ops[i]? with
          | none => rw [hoi] at h2; cases h2
          | some oi =>
            rw [hoy] at hs1; rw [hoi] at h2
            simp only at hs1 h2
            have hpair := (H.pair i y oi oy hoi hoy hyi).resolve_left hyB
            have hap : Oper.apart ops.toArray oy oi = true := by
              rcases hpair with q | q
              · simp only [pairOk, Bool.and_eq_true] at q; exact q.1
              · exact q.1
            obtain ⟨a1, a2, a3⟩ := Oper.apart_spec hap
            have hfi : footI ops i s1 = footI ops i s := by
              simp only [footI, hoi]; exact foot_step hs1 (fun d hd => a1 d hd)
            have invis : ∀ {a b : Nat} {oa ob : Oper}, ops[a]? = some oa → ops[b]? = some ob → isAlloc E.ref oa.op = true → a ∉ (closureL [] ops).getD b [] → visD n0 (dep.getD b ([], [], false)).1 (n0 + (slotsOf E.ref 0 ops).getD a 0) = false := by
              intro a b oa ob hoa hob haa hB
              unfold visD
              rw [Bool.or_eq_false_iff]
              refine ⟨by simp, ?_⟩
              cases hq : (dep.getD b ([], [], false)).1.contains (n0 + (slotsOf E.ref 0 ops).getD a 0 - n0) with
              | false => rfl
              | true =>
                exfalso
                have hm := List.contains_iff_mem.1 hq
                rw [Nat.add_sub_cancel_left] at hm
                obtain ⟨j, hj, hsl, o', ho', ha'⟩ := H.deps b ob hob _ hm
                by_cases e : j = a
                · subst e; exact hB hj
                · exact slot_ne ho' hoa ha' haa e hsl
            have hBy : i ∉ (closureL [] ops).getD y [] := fun hm => by have := H.lt y oy hoy i hm; omega
            have hcl : clash (cls E.ref oy.op) (cls E.ref oi.op) = false ∨ isRefC E.ref oy.op = false ∧ isRefC E.ref oi.op = false ∧ disj (footA (lookA s.tmps) oy.op) (footA (lookA s.tmps) oi.op) = true := by
              rcases hpair with q | ⟨_, q1, q2, q3, q4⟩
              · simp only [pairOk, Bool.and_eq_true, Bool.not_eq_true'] at q; exact .inl q.2
              · right
                refine ⟨q2, q1, ?_⟩
                have hmem : (y, footI ops y s) ∈ noteI ops dep y s log := by unfold noteI; rw [if_pos q4]; simp
                have := List.all_eq_true.1 hk2 _ hmem
                simp only [List.contains_iff_mem.2 q3, Bool.not_true, Bool.false_or] at this
                rw [hfi] at this
                simpa only [footI, hoy, hoi] using this
            obtain ⟨s', g1, g2, g3⟩ := swap hap hcl (fun ha hb q => slot_ne hoy hoi ha hb (by omega) (by omega))
              (fun ha => ⟨hd y (by simp) oy hoy ha, invis hoy hoi ha hyB⟩) (fun ha => ⟨hd i (by simp) oi hoi ha, invis hoi hoy ha hBy⟩) hs1 h2
            have hfy : footI ops y s' = footI ops y s := by simp only [footI, hoy]; exact g3
            refine ⟨s', by unfold stepI; rw [hoi]; exact g1, ?_, ?_⟩
            · rw [← hfi]
              refine heldOk_mono (fun p hp => ?_) hk2
              unfold noteI; split
              · exact List.mem_cons_of_mem _ hp
              · exact hp
            · have hst : stepI E ops dep n0 y s' = some s2 := by unfold stepI; rw [hoy]; exact g2
              have hnote : noteI ops dep y s' log = noteI ops dep y s log := by unfold noteI; rw [hfy]
              rw [hfy, if_pos hky, hst, hnote]
              exact h3
    · cases hr
end
/- Regions that draw their order, and any region. -/
section
variable {K S : Nat → Prop} {w : World} {ρ : Nat → Loc} {P : Program} {E : Env} {a : Act} {dep : List (List Nat × List Nat × Bool)} {n0 : Nat} {ro : Option Nat}

/-- What is not listed yet, in the order of the text. -/
def restOf (n : Nat) (listed : Array Bool) : List Nat := (List.range n).filter fun i => !listed.getD i true

theorem restOf_mem {n : Nat} {listed : Array Bool} {i : Nat} : i ∈ restOf n listed ↔ i < n ∧ listed.getD i true = false := by
  simp [restOf, List.mem_filter, List.mem_range]
theorem restOf_nodup (n : Nat) (listed : Array Bool) : (restOf n listed).Nodup := (List.nodup_range (n := n)).sublist List.filter_sublist

theorem getD_set {listed : Array Bool} {i j : Nat} (hi : i < listed.size) : (listed.setIfInBounds i true).getD j true = if i = j then true else listed.getD j true := by
  simp only [Array.getD_eq_getD_getElem?]
  by_cases h : i = j
  · subst h; simp [hi]
  · rw [Array.getElem?_setIfInBounds_ne h, if_neg h]
theorem restOf_split {n : Nat} {listed : Array Bool} {i : Nat} (hi : i ∈ restOf n listed) (hs : n ≤ listed.size) : ∃ pre post, restOf n listed = pre ++ i :: post ∧ (∀ y ∈ pre, y < i ∧ y ∈ restOf n listed) ∧ restOf n (listed.setIfInBounds i true) = pre ++ post := by
  have hin := (restOf_mem.1 hi).1
  have hil := (restOf_mem.1 hi).2
  refine ⟨(List.range i).filter (fun j => !listed.getD j true), (List.range' (i + 1) (n - i - 1)).filter (fun j => !listed.getD j true), ?_, fun y hy => ?_, ?_⟩
  · have : List.range n = List.range i ++ i :: List.range' (i + 1) (n - i - 1) := by
      rw [List.range_eq_range', List.range_eq_range', show n = i + (1 + (n - i - 1)) by omega, ← List.range'_append_1, ← List.range'_append_1]
      simp
    rw [restOf, this, List.filter_append, List.filter_cons, if_pos (by simpa using hil)]
  · obtain ⟨h1, h2⟩ := List.mem_filter.1 hy
    have := List.mem_range.1 h1
    exact ⟨this, restOf_mem.2 ⟨by omega, by simpa using h2⟩⟩
  · have : List.range n = List.range i ++ i :: List.range' (i + 1) (n - i - 1) := by
      rw [List.range_eq_range', List.range_eq_range', show n = i + (1 + (n - i - 1)) by omega, ← List.range'_append_1, ← List.range'_append_1]
      simp
    rw [restOf, this, List.filter_append, List.filter_cons, if_neg (by rw [getD_set (by omega)]; simp)]
    congr 1
    · apply List.filter_congr
      intro y hy
      have := List.mem_range.1 hy
      rw [getD_set (by omega), if_neg (by omega)]
    · apply List.filter_congr
      intro y hy
      have := (List.mem_range'_1.1 hy).1
      rw [getD_set (by omega), if_neg (by omega)]

theorem any_sound (hE : EnvOk E P) {opsA : Array Oper} (H : Plan E.ref opsA.toList dep) {Q : Exit → Act → World → Prop} {sF : AS} : ∀ (fuel : Nat) (listed : Array Bool) (s : AS) (a : Act) (w : World) (ρ : Nat → Loc) (S : Nat → Prop),
    Rel K ρ S s a w → listed.size = opsA.size → (restOf opsA.size listed).length = fuel → (∀ (i : Nat) (o : Oper), opsA.toList[i]? = some o → listed.getD i true = true → ∀ p ∈ predsOf o, listed.getD p true = true) →
    DeadI E opsA.toList n0 (restOf opsA.size listed) s → runI E opsA.toList dep n0 (restOf opsA.size listed) [] s = some sF →
    (∀ ρ' S' a' w', Rel K ρ' S' sF a' w' → Kp opsA.toList a a' → Ext K S S' ρ ρ' w w' → Q .normal a' w') → wpAnyIn (FR ro) 0 P .any opsA Q fuel listed a w := by
  intro fuel
  induction fuel with
  | zero =>
    intro listed s a w ρ S R hsz hf hcl hd hr hq
    have hnil : restOf opsA.size listed = [] := List.eq_nil_of_length_eq_zero hf
    rw [hnil] at hr
    simp only [runI, Option.some.injEq] at hr; subst hr
    refine ⟨?_, hq _ _ _ _ R (Kp.refl _ _) (Ext.refl _ _ _ _)⟩
    rw [List.eq_nil_iff_forall_not_mem]
    intro i hi
    unfold Region.ready at hi
    obtain ⟨h1, h2⟩ := List.mem_filter.1 hi
    have : i ∈ restOf opsA.size listed := restOf_mem.2 ⟨List.mem_range.1 h1, by simp at h2; simpa [Array.getD_eq_getD_getElem?] using h2.1⟩
    rw [hnil] at this; cases this
  | succ fuel ih =>
    intro listed s a w ρ S R hsz hf hcl hd hr hq
    have hready : ∀ i o, opsA.toList[i]? = some o → i ∈ restOf opsA.size listed → (∀ p ∈ predsOf o, listed.getD p true = true) → i ∈ Region.ready .any opsA listed := by
      intro i o ho hi hp
      unfold Region.ready
      refine List.mem_filter.2 ⟨List.mem_range.2 (restOf_mem.1 hi).1, ?_⟩
      have ho' : opsA[i]? = some o := by simpa using ho
      have hu := (restOf_mem.1 hi).2
      simp only [hu, Bool.not_false, Bool.true_and, ho', Option.map_some, Option.getD_some]
      rw [← Array.all_toList, List.all_eq_true]
      intro e he
      by_cases hb : Region.binds .any e = true
      · have : e.on ∈ predsOf o := by unfold predsOf; exact List.mem_filterMap.2 ⟨e, he, by rw [if_pos hb]⟩
        have hl := hp _ this
        have hpl := H.preds i o ho _ this
        have hlt : e.on < listed.size := by have := (restOf_mem.1 hi).1; omega
        simp only [Array.getD_eq_getD_getElem?, Array.getElem?_eq_getElem hlt, Option.getD_some] at hl ⊢
        simp [hl]
      · simp [hb]
    refine ⟨fun hnil => ?_, fun i hi => ?_⟩
    · -- the first of what is left is ready
      exfalso
      cases hrest : restOf opsA.size listed with
      | nil => rw [hrest] at hf; simp at hf
      | cons i r =>
        have hi : i ∈ restOf opsA.size listed := by rw [hrest]; simp
        have hin := (restOf_mem.1 hi).1
        have ho : opsA.toList[i]? = some opsA[i] := by simp [hin]
        have := hready i _ ho hi (fun p hp => by
          have hpi := H.preds i _ ho p hp
          cases hq : listed.getD p true with
          | true => rfl
          | false =>
            exfalso
            have hpr : p ∈ restOf opsA.size listed := restOf_mem.2 ⟨by omega, hq⟩
            have hsort : (restOf opsA.size listed).Pairwise (· < ·) := List.Pairwise.filter _ List.pairwise_lt_range
            rw [hrest] at hpr hsort
            rcases List.mem_cons.1 hpr with e | e
            · omega
            · have := (List.pairwise_cons.1 hsort).1 p e; omega)
        rw [hnil] at this; cases this
    · unfold Region.ready at hi
      obtain ⟨h1, h2⟩ := List.mem_filter.1 hi
      have hin := List.mem_range.1 h1
      simp only [Bool.and_eq_true, Bool.not_eq_true'] at h2
      have hir : i ∈ restOf opsA.size listed := restOf_mem.2 ⟨hin, h2.1⟩
      have ho' : opsA[i]? = some opsA[i] := by simp [hin]
      have ho : opsA.toList[i]? = some opsA[i] := by simp [hin]
      have hpl : ∀ p ∈ predsOf opsA[i], listed.getD p true = true := by
        intro p hp
        unfold predsOf at hp
        obtain ⟨e, he, hb⟩ := List.mem_filterMap.1 hp
        split at hb
        · rename_i hbi
          cases hb
          have h3 := h2.2
          simp only [ho', Option.map_some, Option.getD_some] at h3
          rw [← Array.all_toList, List.all_eq_true] at h3
          have := h3 e he
          simp only [hbi, Bool.not_true, Bool.false_or] at this
          have hlt : e.on < listed.size := by
            cases hq : listed[e.on]? with
            | none => simp [Array.getD_eq_getD_getElem?, hq] at this
            | some b => exact (Array.getElem?_eq_some_iff.1 hq).1
          simp only [Array.getD_eq_getD_getElem?, Array.getElem?_eq_getElem hlt, Option.getD_some] at this ⊢
          exact this
        · cases hb
      obtain ⟨pre, post, e1, e2, e3⟩ := restOf_split hir (Nat.le_of_eq hsz.symm)
      rw [e1] at hr hd hf
      have hnd : (pre ++ i :: post).Nodup := by rw [← e1]; exact restOf_nodup _ _
      obtain ⟨s', g1, _, g2⟩ := move_first H pre [] s (fun y hy => ⟨(e2 y hy).1, fun hm => by
        have := H.listed (L := fun j => listed.getD j true = true) hcl i _ ho hpl y hm
        have h3 := (restOf_mem.1 (e2 y hy).2).2
        rw [h3] at this; cases this⟩) hnd hd hr
      have g1' := g1
      unfold stepI at g1
      rw [ho] at g1
      have hslot : isAlloc E.ref opsA[i].op = true → s.heap[n0 + (slotsOf E.ref 0 opsA.toList).getD i 0]? = some .dead := fun ha => hd i (by simp) _ ho ha
      have hst := stepA_sound (ro := ro) R hE hslot g1 Q (wpAnyIn (FR ro) 0 P .any opsA Q fuel (listed.setIfInBounds i true)) (fun ρ' S' a' w' R' hdf X => by
        have hni : i ∉ pre ++ post := by
          have := List.nodup_append.1 hnd
          intro hm
          rcases List.mem_append.1 hm with q | q
          · exact this.2.2 i q i (by simp) rfl
          · exact (List.nodup_cons.1 this.2.1).1 q
        refine ih _ s' a' w' ρ' S' R' (by simpa using hsz) (by rw [e3]; simp at hf ⊢; omega) (fun j o hj hl p hp => ?_) ?_ (by rw [e3]; exact g2) (fun ρ'' S'' a'' w'' R'' hdf' X'' => hq _ _ _ _ R'' (hdf.trans hdf' (fun o' ho' => by simp at ho'; subst ho'; simp) (fun _ h => h)) (X.trans X''))
        · rw [getD_set (by omega)] at hl ⊢
          split
          · rfl
          · split at hl
            · rename_i q; subst q
              rw [ho] at hj; cases hj
              exact hpl p hp
            · exact hcl j o hj hl p hp
        · rw [e3]
          exact stepI_dead g1' (fun j hj => hd j (by rcases List.mem_append.1 hj with q | q; simp [q]; simp [q])) hni)
      unfold wpOpIn
      rw [ho']
      exact hst

/-- The same where the last operations wait for all the others: what these do is told by hand. -/
theorem any_pre (hE : EnvOk E P) {opsA : Array Oper} (H : Plan E.ref opsA.toList dep) {Q : Exit → Act → World → Prop} {sF : AS} {m post : Nat} (hmp : m + post = opsA.size) (hpost : ∀ i, m ≤ i → i < opsA.size → ∀ j, j < m → j ∈ (closureL [] opsA.toList).getD i []) : ∀ (fuel : Nat) (listed : Array Bool) (s : AS) (a : Act) (w : World) (ρ : Nat → Loc) (S : Nat → Prop),
    Rel K ρ S s a w → listed.size = opsA.size → (restOf m listed).length = fuel → (∀ i, m ≤ i → i < opsA.size → listed.getD i true = false) → (∀ (i : Nat) (o : Oper), opsA.toList[i]? = some o → listed.getD i true = true → ∀ p ∈ predsOf o, listed.getD p true = true) →
    DeadI E opsA.toList n0 (restOf m listed) s → runI E opsA.toList dep n0 (restOf m listed) [] s = some sF →
    (∀ listed', listed'.size = opsA.size → (∀ i, i < m → listed'.getD i true = true) → (∀ i, m ≤ i → i < opsA.size → listed'.getD i true = false) → ∀ ρ' S' a' w', Rel K ρ' S' sF a' w' → Kp opsA.toList a a' → Ext K S S' ρ ρ' w w' → wpAnyIn (FR ro) 0 P .any opsA Q post listed' a' w') → wpAnyIn (FR ro) 0 P .any opsA Q (fuel + post) listed a w := by
  intro fuel
  induction fuel with
  | zero =>
    intro listed s a w ρ S R hsz hf hun hcl hd hr hq
    have hnil : restOf m listed = [] := List.eq_nil_of_length_eq_zero hf
    rw [hnil] at hr
    simp only [runI, Option.some.injEq] at hr; subst hr
    rw [Nat.zero_add]
    refine hq listed hsz (fun i hi => ?_) hun _ _ _ _ R (Kp.refl _ _) (Ext.refl _ _ _ _)
    cases hl : listed.getD i true with
    | true => rfl
    | false => have := restOf_mem.2 ⟨hi, hl⟩; rw [hnil] at this; cases this
  | succ fuel ih =>
    intro listed s a w ρ S R hsz hf hun hcl hd hr hq
    rw [Nat.add_right_comm]
    have hready : ∀ i o, opsA.toList[i]? = some o → i ∈ restOf m listed → (∀ p ∈ predsOf o, listed.getD p true = true) → i ∈ Region.ready .any opsA listed := by
      intro i o ho hi hp
      unfold Region.ready
      refine List.mem_filter.2 ⟨List.mem_range.2 (by have := (restOf_mem.1 hi).1; omega), ?_⟩
      have ho' : opsA[i]? = some o := by simpa using ho
      have hu := (restOf_mem.1 hi).2
      simp only [hu, Bool.not_false, Bool.true_and, ho', Option.map_some, Option.getD_some]
      rw [← Array.all_toList, List.all_eq_true]
      intro e he
      by_cases hb : Region.binds .any e = true
      · have : e.on ∈ predsOf o := by unfold predsOf; exact List.mem_filterMap.2 ⟨e, he, by rw [if_pos hb]⟩
        have hl := hp _ this
        have hpl := H.preds i o ho _ this
        have hlt : e.on < listed.size := by have := (restOf_mem.1 hi).1; omega
        simp only [Array.getD_eq_getD_getElem?, Array.getElem?_eq_getElem hlt, Option.getD_some] at hl ⊢
        simp [hl]
      · simp [hb]
    refine ⟨fun hnil => ?_, fun i hi => ?_⟩
    · -- the first of what is left is ready
      exfalso
      cases hrest : restOf m listed with
      | nil => rw [hrest] at hf; simp at hf
      | cons i r =>
        have hi : i ∈ restOf m listed := by rw [hrest]; simp
        have hin := (restOf_mem.1 hi).1
        have ho : opsA.toList[i]? = some (opsA[i]'(by omega)) := by simp [show i < opsA.size by omega]
        have := hready i _ ho hi (fun p hp => by
          have hpi := H.preds i _ ho p hp
          cases hq : listed.getD p true with
          | true => rfl
          | false =>
            exfalso
            have hpr : p ∈ restOf m listed := restOf_mem.2 ⟨by omega, hq⟩
            have hsort : (restOf m listed).Pairwise (· < ·) := List.Pairwise.filter _ List.pairwise_lt_range
            rw [hrest] at hpr hsort
            rcases List.mem_cons.1 hpr with e | e
            · omega
            · have := (List.pairwise_cons.1 hsort).1 p e; omega)
        rw [hnil] at this; cases this
    · unfold Region.ready at hi
      obtain ⟨h1, h2⟩ := List.mem_filter.1 hi
      have hin := List.mem_range.1 h1
      simp only [Bool.and_eq_true, Bool.not_eq_true'] at h2
      have ho' : opsA[i]? = some opsA[i] := by simp [hin]
      have ho : opsA.toList[i]? = some opsA[i] := by simp [hin]
      have hpl : ∀ p ∈ predsOf opsA[i], listed.getD p true = true := by
        intro p hp
        unfold predsOf at hp
        obtain ⟨e, he, hb⟩ := List.mem_filterMap.1 hp
        split at hb
        · rename_i hbi
          cases hb
          have h3 := h2.2
          simp only [ho', Option.map_some, Option.getD_some] at h3
          rw [← Array.all_toList, List.all_eq_true] at h3
          have := h3 e he
          simp only [hbi, Bool.not_true, Bool.false_or] at this
          have hlt : e.on < listed.size := by
            cases hq : listed[e.on]? with
            | none => simp [Array.getD_eq_getD_getElem?, hq] at this
            | some b => exact (Array.getElem?_eq_some_iff.1 hq).1
          simp only [Array.getD_eq_getD_getElem?, Array.getElem?_eq_getElem hlt, Option.getD_some] at this ⊢
          exact this
        · cases hb
      have him : i < m := by
        refine Nat.lt_of_not_le fun hge => ?_
        cases hrest : restOf m listed with
        | nil => rw [hrest] at hf; simp at hf
        | cons j r =>
          have hj : j ∈ restOf m listed := by rw [hrest]; simp
          have := H.listed (L := fun j => listed.getD j true = true) hcl i _ ho hpl j (hpost i hge hin j (restOf_mem.1 hj).1)
          have h3 := (restOf_mem.1 hj).2
          rw [h3] at this; cases this
      have hir : i ∈ restOf m listed := restOf_mem.2 ⟨him, h2.1⟩
      obtain ⟨pre, post', e1, e2, e3⟩ := restOf_split hir (by omega)
      rw [e1] at hr hd hf
      have hnd : (pre ++ i :: post').Nodup := by rw [← e1]; exact restOf_nodup _ _
      obtain ⟨s', g1, _, g2⟩ := move_first H pre [] s (fun y hy => ⟨(e2 y hy).1, fun hm => by
        have := H.listed (L := fun j => listed.getD j true = true) hcl i _ ho hpl y hm
        have h3 := (restOf_mem.1 (e2 y hy).2).2
        rw [h3] at this; cases this⟩) hnd hd hr
      have g1' := g1
      unfold stepI at g1
      rw [ho] at g1
      have hslot : isAlloc E.ref opsA[i].op = true → s.heap[n0 + (slotsOf E.ref 0 opsA.toList).getD i 0]? = some .dead := fun ha => hd i (by simp) _ ho ha
      have hst := stepA_sound (ro := ro) R hE hslot g1 Q (wpAnyIn (FR ro) 0 P .any opsA Q (fuel + post) (listed.setIfInBounds i true)) (fun ρ' S' a' w' R' hdf X => by
        have hni : i ∉ pre ++ post' := by
          have := List.nodup_append.1 hnd
          intro hm
          rcases List.mem_append.1 hm with q | q
          · exact this.2.2 i q i (by simp) rfl
          · exact (List.nodup_cons.1 this.2.1).1 q
        refine ih _ s' a' w' ρ' S' R' (by simpa using hsz) (by rw [e3]; simp at hf ⊢; omega) (fun j hj1 hj2 => by rw [getD_set (by omega), if_neg (by omega)]; exact hun j hj1 hj2) (fun j o hj hl p hp => ?_) ?_ (by rw [e3]; exact g2) (fun listed' q1 q2 q3 ρ'' S'' a'' w'' R'' hdf' X'' => hq listed' q1 q2 q3 _ _ _ _ R'' (hdf.trans hdf' (fun o' ho' => by simp at ho'; subst ho'; simp) (fun _ h => h)) (X.trans X''))
        · rw [getD_set (by omega)] at hl ⊢
          split
          · rfl
          · split at hl
            · rename_i q; subst q
              rw [ho] at hj; cases hj
              exact hpl p hp
            · exact hcl j o hj hl p hp
        · rw [e3]
          exact stepI_dead g1' (fun j hj => hd j (by rcases List.mem_append.1 hj with q | q; simp [q]; simp [q])) hni)
      unfold wpOpIn
      rw [ho']
      exact hst

theorem runD_runI (ops : List Oper) : ∀ (r : List Oper) (k : Nat) (log : List (Nat × List Nat)) (s : AS), (∀ j, r[j]? = ops[k + j]?) → k + r.length = ops.length →
    runD E ops n0 k (n0 + (slotsOf E.ref 0 ops).getD k 0) log (dep.drop k) r s = runI E ops dep n0 (List.range' k r.length) log s
  | [], k, log, s, _, _ => by simp [runD, runI]
  | o :: r, k, log, s, h, hl => by
    have h0 : ops[k]? = some o := by simpa using (h 0).symm
    have hd : (dep.drop k).headD ([], [], false) = dep.getD k ([], [], false) := by
      simp [List.headD_eq_head?_getD, List.head?_drop, List.getD_eq_getElem?_getD]
    have hsl : ∀ (ops : List Oper) (b k : Nat) (o : Oper), ops[k]? = some o → k + 1 < ops.length → (slotsOf E.ref b ops).getD (k + 1) 0 = (slotsOf E.ref b ops).getD k 0 + (if isAlloc E.ref o.op = true then 1 else 0) := by
      intro ops
      induction ops with
      | nil => intro b k o h; simp at h
      | cons x xs ih =>
        intro b k o hk hlt
        cases k with
        | zero =>
          simp at hk; subst hk
          cases xs with
          | nil => simp at hlt
          | cons y ys => simp only [slotsOf, List.getD_cons_succ, List.getD_cons_zero]; split <;> rfl
        | succ k =>
          simp only [slotsOf, List.getD_cons_succ]
          exact ih _ k o (by simpa using hk) (by simpa using hlt)
    have hf : footI ops k s = footA (lookA s.tmps) o.op := by simp only [footI, h0]
    simp only [List.length_cons, List.range'_succ, runD, runI, stepI, h0, hd, hf]
    split
    · cases hs : stepA E ops (visD n0 (dep.getD k ([], [], false)).1) (n0 + (slotsOf E.ref 0 ops).getD k 0) o s with
      | none => rfl
      | some s' =>
        simp only
        have ih := fun log' => runD_runI ops r (k + 1) log' s' (fun j => by have := h (j + 1); simpa [Nat.add_assoc, Nat.add_comm 1 j] using this) (by simp at hl; omega)
        cases r with
        | nil => simp [runD, runI]
        | cons y ys =>
          have hs2 := hsl ops 0 k o h0 (by simp at hl; omega)
          rw [← ih]
          congr 1
          · rw [hs2]; split <;> omega
          · unfold noteI; rw [hf]
          · simp
    · rfl

/-- A region. -/
theorem region_sound (hE : EnvOk E P) (hm : P.follows .mixedOrders = true) {id : Nat} {opsA : Array Oper} {draw : Bool} (hok : draw = true → okR E.ref opsA.toList (E.dep id) = true) {s s' : AS} (hr : runRegion E id opsA.toList draw s = some s') (R : Rel K ρ S s a w)
    {Q : Exit → Act → World → Prop} (hq : ∀ ρ' S' a' w', Rel K ρ' S' s' a' w' → Kp opsA.toList a a' → Ext K S S' ρ ρ' w w' → Q .normal a' w') : (Code.region id opsA draw).wpIn (FR ro) 0 P Q a w := by
  have hdead : ∀ k, s.heap.length ≤ k → k < s.heap.length + nAlloc E.ref opsA.toList → (widen (nAlloc E.ref opsA.toList) s).heap[k]? = some .dead := by
    intro k h1 h2
    show (s.heap ++ List.replicate _ _)[k]? = _
    rw [List.getElem?_append_right h1, List.getElem?_replicate, if_pos (by omega)]
  cases draw with
  | false =>
    simp only [runRegion, Bool.false_eq_true, if_false] at hr
    have R' : Rel K ρ S (widen (nAlloc E.ref opsA.toList) s) a w := ⟨R.len, R.tmp, R.mem.widen _, R.dfr⟩
    exact wpIn_region_list (runL_sound hE _ _ _ _ _ _ _ hr R' hdead hq)
  | true =>
    simp only [runRegion, if_true] at hr
    have H := okR_plan (hok rfl)
    let w1 : World := { w with drawn := w.drawn + 1 }
    have X0 : Ext K S S ρ ρ w w1 := ⟨rfl, rfl, rfl, Nat.le_refl _, fun _ _ => rfl, fun _ h => h, fun _ h => .inl h, fun _ _ => rfl, fun _ => .inr (.inl rfl)⟩
    have XV : ExtV S S w w1 := ⟨rfl, rfl, rfl, Nat.le_refl _, fun _ _ => rfl, fun _ h => h, fun _ h => .inl h, R.mem.sb⟩
    have R1 : Rel K ρ S (widen (nAlloc E.ref opsA.toList) s) a w1 :=
      ⟨R.len, fun t v ht => let ⟨u, hu, hv⟩ := R.tmp t v ht; ⟨u, hu, hv.mono X0.ss X0.same X0.loc⟩, (R.mem.widen _).later XV |>.1, R.dfr.step X0.kept X0.new⟩
    refine wpIn_region_any hm ?_
    have hrest : restOf opsA.size (Array.replicate opsA.size false) = List.range opsA.size := by
      rw [restOf, List.filter_eq_self]
      intro i hi
      have := List.mem_range.1 hi
      simp [Array.getD_eq_getD_getElem?, this]
    have hr2 := runD_runI (E := E) (dep := E.dep id) (n0 := s.heap.length) opsA.toList opsA.toList 0 [] (widen (nAlloc E.ref opsA.toList) s) (fun j => by simp) (by simp)
    have hs0 : (slotsOf E.ref 0 opsA.toList).getD 0 0 = 0 := by cases opsA.toList <;> rfl
    rw [hs0, Nat.add_zero, List.drop_zero, hr, Array.length_toList] at hr2
    refine any_sound (n0 := s.heap.length) hE H _ _ _ _ _ _ _ R1 (by simp) (by rw [hrest]; simp) (fun i o hi hl => ?_) ?_ ?_ (fun ρ' S' a' w' R' hdf X => hq _ _ _ _ R' hdf (X0.trans X))
    · have hil := (List.getElem?_eq_some_iff.1 hi).1
      have hil' : i < opsA.size := by simpa using hil
      simp [Array.getD_eq_getD_getElem?, hil'] at hl
    · intro i hi o ho ha
      refine hdead _ (by omega) ?_
      have := slotsOf_lt E.ref opsA.toList 0 i _ o (slot_get ho) ho ha
      omega
    · rw [hrest, List.range_eq_range']; exact hr2.symm
end
/- Code, functions, calls down to a depth. -/

/-- As Ext, but of the first numbers alone. -/
structure ExtB (base : Nat) (K S S' : Nat → Prop) (ρ ρ' : Nat → Loc) (w w' : World) : Prop where
  os : w'.os = w.os
  tape : w'.tape = w.tape
  output : w'.output = w.output
  size : w.heap.size ≤ w'.heap.size
  kept : ∀ b, K b → w'.heap[b]? = w.heap[b]?
  ss : ∀ b, S b → S' b
  new : ∀ b, S' b → S b ∨ ¬ K b
  same : ∀ b, S b → w'.heap[b]? = w.heap[b]?
  loc : ∀ id, id < base → ρ id = .free ∨ ρ' id = ρ id ∨ ρ' id = .gone
theorem Ext.b {base : Nat} {K S S' : Nat → Prop} {ρ ρ' : Nat → Loc} {w w' : World} (h : Ext K S S' ρ ρ' w w') : ExtB base K S S' ρ ρ' w w' := ⟨h.os, h.tape, h.output, h.size, h.kept, h.ss, h.new, h.same, fun id _ => h.loc id⟩
theorem ExtB.refl (base : Nat) (K S : Nat → Prop) (ρ : Nat → Loc) (w : World) : ExtB base K S S ρ ρ w w := (Ext.refl K S ρ w).b
theorem ExtB.trans {base : Nat} {K S S' S'' : Nat → Prop} {ρ ρ' ρ'' : Nat → Loc} {w w' w'' : World} (h : ExtB base K S S' ρ ρ' w w') (k : ExtB base K S' S'' ρ' ρ'' w' w'') : ExtB base K S S'' ρ ρ'' w w'' :=
  ⟨k.os.trans h.os, k.tape.trans h.tape, k.output.trans h.output, Nat.le_trans h.size k.size, fun b hb => (k.kept b hb).trans (h.kept b hb), fun b hb => k.ss b (h.ss b hb),
    fun b hb => (k.new b hb).elim (h.new b) .inr, fun b hb => (k.same b (h.ss b hb)).trans (h.same b hb), fun id hid => by
      rcases h.loc id hid with e | e | e
      · exact .inl e
      · rcases k.loc id hid with f | f | f
        · exact .inl (e ▸ f)
        · exact .inr (.inl (f.trans e))
        · exact .inr (.inr f)
      · rcases k.loc id hid with f | f | f
        · rw [e] at f; cases f
        · exact .inr (.inr (f.trans e))
        · exact .inr (.inr f)⟩

def outX : Out → Exit
  | .normal => .normal
  | .ret => .ret
  | .exit id => .exit id


theorem ExtB.weaken {base : Nat} {K K' S S' : Nat → Prop} {ρ ρ' : Nat → Loc} {w w' : World} (hk : ∀ b, K b → K' b) (h : ExtB base K' S S' ρ ρ' w w') : ExtB base K S S' ρ ρ' w w' :=
  ⟨h.os, h.tape, h.output, h.size, fun b hb => h.kept b (hk b hb), h.ss, fun b hb => (h.new b hb).imp id (fun q r => q (hk b r)), h.same, h.loc⟩
theorem ExtB.less {base base' : Nat} {K S S' : Nat → Prop} {ρ ρ' : Nat → Loc} {w w' : World} (hb : base ≤ base') (h : ExtB base' K S S' ρ ρ' w w') : ExtB base K S S' ρ ρ' w w' :=
  ⟨h.os, h.tape, h.output, h.size, h.kept, h.ss, h.new, h.same, fun id hid => h.loc id (Nat.lt_of_lt_of_le hid hb)⟩
/-- A run from one state to a later one; what must be kept may be more then (marks of ranges). -/
structure Went (base : Nat) (K K' S S' : Nat → Prop) (ρ ρ' : Nat → Loc) (a a' : Act) (w w' : World) : Prop where
  kk : ∀ b, K b → K' b
  marks : ∀ D, mkD D ∈ a'.defers → mkD D ∈ a.defers ∨ w.heap.size ≤ D
  ext : ExtB base K S S' ρ ρ' w w'
theorem Went.refl (base : Nat) (K S : Nat → Prop) (ρ : Nat → Loc) (a : Act) (w : World) : Went base K K S S ρ ρ a a w w := ⟨fun _ h => h, fun _ h => .inl h, ExtB.refl _ _ _ _ _⟩
theorem Went.trans {base : Nat} {K K' K'' S S' S'' : Nat → Prop} {ρ ρ' ρ'' : Nat → Loc} {a a' a'' : Act} {w w' w'' : World} (h : Went base K K' S S' ρ ρ' a a' w w') (k : Went base K' K'' S' S'' ρ' ρ'' a' a'' w' w'') : Went base K K'' S S'' ρ ρ'' a a'' w w'' :=
  ⟨fun b hb => k.kk b (h.kk b hb), fun D hD => (k.marks D hD).elim (h.marks D) (fun q => .inr (Nat.le_trans h.ext.size q)), h.ext.trans (k.ext.weaken h.kk)⟩
theorem Went.less {base base' : Nat} {K K' S S' : Nat → Prop} {ρ ρ' : Nat → Loc} {a a' : Act} {w w' : World} (hb : base ≤ base') (h : Went base' K K' S S' ρ ρ' a a' w w') : Went base K K' S S' ρ ρ' a a' w w' := ⟨h.kk, h.marks, h.ext.less hb⟩

theorem Heap.fewer {K K' S : Nat → Prop} {ρ : Nat → Loc} {h : List Blk} {z : List Bool} {w : World} (hk : ∀ b, K b → K' b) (H : Heap K' ρ S h z w) : Heap K ρ S h z w :=
  ⟨H.blk, H.inj, fun id b n e q => H.ok id b n e (hk b q), H.own, H.zl, H.sb, fun b hb => H.kb b (hk b hb)⟩
/-- Blocks that nothing speaks of may turn. -/
theorem Heap.turn {K S : Nat → Prop} {ρ : Nat → Loc} {h : List Blk} {z : List Bool} {w w' : World} (H : Heap K ρ S h z w) {D : Nat → Prop} (hD : ∀ b, D b → K b ∧ ¬ S b) (hw : ∀ b, b < w.heap.size → ¬ D b → w'.heap[b]? = w.heap[b]?) (hs : w.heap.size ≤ w'.heap.size) : Heap K ρ S h z w' :=
  ⟨fun id => (H.blk id).mono (fun _ q => q) (fun b hb => hw b (H.sb b hb) (fun q => (hD b q).2 hb)) (fun _ => .inr (.inl rfl)) (fun b n e => hw b (H.lt e).1 (fun q => H.ok id b n e (hD b q).1)), H.inj, H.ok, H.own, H.zl, fun b hb => Nat.lt_of_lt_of_le (H.sb b hb) hs, fun b hb => Nat.lt_of_lt_of_le (H.kb b hb) hs⟩
/-- What is kept may be more: blocks of which nothing speaks. -/
theorem Heap.raise {K K' S : Nat → Prop} {ρ : Nat → Loc} {h : List Blk} {z : List Bool} {w : World} (H : Heap K ρ S h z w) (hk : ∀ b, K' b → b < w.heap.size) (hn : ∀ id b n, ρ id = .at b n → ¬ K' b) : Heap K' ρ S h z w :=
  ⟨H.blk, H.inj, hn, H.own, H.zl, H.sb, hk⟩

section
variable {K : Nat → Prop} {P : Program} {E : Env}

variable {ro : Option Nat}

theorem exists_least {p : Nat → Prop} (h : ∃ n, p n) : ∃ n, p n ∧ ∀ m, p m → n ≤ m := by
  obtain ⟨n, hn⟩ := h
  induction n using Nat.strongRecOn with
  | _ n ih =>
    by_cases q : ∃ m, m < n ∧ p m
    · obtain ⟨m, h1, h2⟩ := q; exact ih m h1 h2
    · exact ⟨n, hn, fun m hm => Nat.le_of_not_lt fun hlt => q ⟨m, hlt, hm⟩⟩
open Classical in
theorem loop_sound {base N : Nat} {c : Code} {keep : List Nat}
    (ih : ∀ (K : Nat → Prop) (s s' : AS) (out : Out) (a : Act) (w : World) (ρ : Nat → Loc) (S : Nat → Prop) (Q : Exit → Act → World → Prop), exec E N base c s = some (out, s') → Rel K ρ S s a w → (∀ K' ρ' S' a' w', Rel K' ρ' S' s' a' w' → Went base K K' S S' ρ ρ' a a' w w' → Q (outX out) a' w') → c.wpIn (FR ro) 0 P Q a w)
    {K : Nat → Prop} {s s' : AS} {out : Out} {a : Act} {w : World} {ρ : Nat → Loc} {S : Nat → Prop} {Q : Exit → Act → World → Prop} {n : Nat} (hr : loopN (exec E N base c) (canon base keep) n s = some (out, s')) (R : Rel K ρ S s a w)
    (hq : ∀ K' ρ' S' a' w', Rel K' ρ' S' s' a' w' → Went base K K' S S' ρ ρ' a a' w w' → Q (outX out) a' w') : (Code.loop c).wpIn (FR ro) 0 P Q a w := by
  let T : Nat → Act → World → Prop := fun n a1 w1 => ∃ s1 K1 ρ1 S1, Rel K1 ρ1 S1 s1 a1 w1 ∧ Went base K K1 S S1 ρ ρ1 a a1 w w1 ∧ loopN (exec E N base c) (canon base keep) n s1 = some (out, s')
  let μ : Act → World → Nat := fun a1 w1 => if h : ∃ n, T n a1 w1 then (exists_least h).choose else 0
  refine wpIn_loop (fun a1 w1 => ∃ n, T n a1 w1) μ ⟨n, s, K, ρ, S, R, Went.refl _ _ _ _ _ _, hr⟩ ?_
  intro a1 w1 hI
  have hμ : μ a1 w1 = (exists_least hI).choose := dif_pos hI
  obtain ⟨s1, K1, ρ1, S1, R1, X1, hl⟩ := (exists_least hI).choose_spec.1
  have hle : ∀ m a2 w2, T m a2 w2 → μ a2 w2 ≤ m := fun m a2 w2 h => by
    show (if h : ∃ n, T n a2 w2 then (exists_least h).choose else 0) ≤ m
    rw [dif_pos ⟨m, h⟩]
    exact (exists_least ⟨m, h⟩).choose_spec.2 m h
  cases hk : (exists_least hI).choose with
  | zero => rw [hk] at hl; simp [loopN] at hl
  | succ m =>
    rw [hk] at hl
    simp only [loopN] at hl
    obtain ⟨ρ2, R2, hloc⟩ := R1.canon base keep
    have X2 : Went base K1 K1 S1 S1 ρ1 ρ2 a1 a1 w1 w1 := ⟨fun _ h => h, fun _ h => .inl h, ⟨rfl, rfl, rfl, Nat.le_refl _, fun _ _ => rfl, fun _ h => h, fun _ h => .inl h, fun _ _ => rfl, fun id hid => .inr (hloc id hid)⟩⟩
    cases hb : exec E N base c (canon base keep s1) with
    | none => simp [hb] at hl
    | some p =>
      obtain ⟨o1, s2⟩ := p
      rw [hb] at hl
      refine ih K1 _ _ _ a1 w1 ρ2 S1 _ hb R2 (fun K3 ρ3 S3 a3 w3 R3 X3 => ?_)
      have X : Went base K K3 S S3 ρ ρ3 a a3 w w3 := (X1.trans X2).trans X3
      cases o1 with
      | normal =>
        simp only at hl
        have hT : T m a3 w3 := ⟨s2, K3, ρ3, S3, R3, X, hl⟩
        show (∃ n, T n a3 w3) ∧ μ a3 w3 < μ a1 w1
        refine ⟨⟨m, hT⟩, ?_⟩
        rw [hμ, hk]
        exact Nat.lt_succ_of_le (hle _ _ _ hT)
      | ret =>
        simp only [Option.some.injEq, Prod.mk.injEq] at hl
        obtain ⟨rfl, rfl⟩ := hl
        exact hq _ _ _ _ _ R3 X
      | exit id =>
        simp only [Option.some.injEq, Prod.mk.injEq] at hl
        obtain ⟨rfl, rfl⟩ := hl
        exact hq _ _ _ _ _ R3 X

theorem ExtB.turn {base : Nat} {K S S' : Nat → Prop} {ρ ρ' : Nat → Loc} {w W : World} {l : Nat} (o : Obj) (h : ExtB base K S S' ρ ρ' w W) (hk : ¬ K l) (hs : ¬ S l) : ExtB base K S S' ρ ρ' w (W.putObj l o) :=
  ⟨h.os, h.tape, h.output, by rw [World.putObj_size]; exact h.size, fun b hb => (World.putObj_heap_other (show b ≠ l from fun e => hk (e ▸ hb))).trans (h.kept b hb), h.ss, h.new, fun b hb => (World.putObj_heap_other (show b ≠ l from fun e => hs (e ▸ hb))).trans (h.same b hb), h.loc⟩
theorem Rel.turn {K S : Nat → Prop} {ρ : Nat → Loc} {s : AS} {a : Act} {W : World} {l : Nat} {o0 : Obj} (o : Obj) (R : Rel K ρ S s a W) (hl : W.heap[l]? = some o0) (ho : ∀ ds, o0 ≠ .deferred ds) (hk : K l) (hs : ¬ S l) : Rel K ρ S s a (W.putObj l o) := by
  refine ⟨R.len, fun t v ht => let ⟨u, hu, hv⟩ := R.tmp t v ht; ⟨u, hu, hv.mono (fun _ h => h) (fun b hb => World.putObj_heap_other (show b ≠ l from fun e => hs (e ▸ hb))) (fun _ => .inr (.inl rfl))⟩,
    R.mem.turn (D := fun b => b = l) (fun b e => e ▸ ⟨hk, hs⟩) (fun b _ hb => World.putObj_heap_other hb) (by rw [World.putObj_size]; exact Nat.le_refl _), ?_⟩
  obtain ⟨Ds, h1, h2, h3⟩ := R.dfr
  refine ⟨Ds, h1, h2, fun D hD => ?_⟩
  obtain ⟨q1, q2, q3⟩ := h3 D hD
  refine ⟨q1, q2, (World.putObj_heap_other (fun e => ?_)).trans q3⟩
  subst e; rw [hl] at q3; exact ho _ (Option.some.inj q3)
theorem Rel.late {K S : Nat → Prop} {ρ : Nat → Loc} {s : AS} {a : Act} {W W' : World} (R : Rel K ρ S s a W) (X : ExtV (fun _ => False) (fun _ => False) W W') : Rel K ρ S s a W' ∧ Ext K S S ρ ρ W W' := by
  have X' : ExtV S S W W' := ⟨X.os, X.tape, X.output, X.size, X.old, fun _ h => h, fun _ h => .inl h, fun b hb => Nat.lt_of_lt_of_le (R.mem.sb b hb) X.size⟩
  obtain ⟨H, Y⟩ := R.mem.later X'
  exact ⟨⟨R.len, fun t v ht => let ⟨u, hu, hv⟩ := R.tmp t v ht; ⟨u, hu, hv.mono Y.ss Y.same Y.loc⟩, H, R.dfr.step Y.kept Y.new⟩, Y⟩
theorem putAll_rel {S : Nat → Prop} {ρ : Nat → Loc} {w : World} : ∀ (ps : List Tmp) (tm : List AV) (ar : Array Value) (xs : List AV) (vs : List Value), tm.length = ar.size → (∀ (t : Nat) (v : AV), tm[t]? = some v → ∃ u, ar[t]? = some u ∧ V3 ρ S w v u) → LR (V3 ρ S w) xs vs →
    (putAll tm ps xs).length = ((ps.zip vs).foldl (fun t p => t.setIfInBounds p.1 p.2) ar).size ∧ ∀ (t : Nat) (v : AV), (putAll tm ps xs)[t]? = some v → ∃ u, ((ps.zip vs).foldl (fun t p => t.setIfInBounds p.1 p.2) ar)[t]? = some u ∧ V3 ρ S w v u
  | [], tm, ar, xs, vs, hl, h, _ => by simpa [putAll] using ⟨hl, h⟩
  | p :: ps, tm, ar, [], vs, hl, h, hx => by
    have : vs = [] := List.eq_nil_of_length_eq_zero hx.1.symm
    subst this; simpa [putAll] using ⟨hl, h⟩
  | p :: ps, tm, ar, x :: xs, [], hl, h, hx => by have := hx.1; simp at this
  | p :: ps, tm, ar, x :: xs, v :: vs, hl, h, hx => by
    simp only [putAll, List.zip_cons_cons, List.foldl_cons]
    obtain ⟨u0, hu0, hv0⟩ := hx.2 0 x rfl
    simp at hu0; subst hu0
    refine putAll_rel ps _ _ xs vs (by simpa using hl) (fun t c ht => ?_) ⟨by simpa using hx.1, fun j c hj => by simpa using hx.2 (j + 1) c (by simpa using hj)⟩
    rw [List.getElem?_set] at ht
    by_cases e : p = t
    · subst e
      rw [if_pos rfl] at ht
      split at ht
      · rename_i hlt
        cases ht
        exact ⟨v, by rw [Array.getElem?_setIfInBounds_self_of_lt (by rw [← hl]; exact hlt)], hv0⟩
      · cases ht
    · rw [if_neg e] at ht
      rw [Array.getElem?_setIfInBounds_ne e]
      exact h t c ht
theorem canon_base (base : Nat) (keep : List Nat) (s : AS) : base ≤ (canon base keep s).heap.length := by
  obtain ⟨t, ht⟩ := addNew_prefix ((keepL keep 0 s.tmps).flatMap idsV) (upto base)
  obtain ⟨t', ht'⟩ := reach_prefix (s.heap[·]?) 4 (addNew (upto base) ((keepL keep 0 s.tmps).flatMap idsV))
  show base ≤ (List.map _ _).length
  rw [List.length_map, ht', ht, List.length_append, List.length_append, upto_length]; omega
def outC : Out → Code
  | .normal => .skip
  | .ret => .ret
  | .exit id => .exit id
theorem range_sound (hE : EnvOk E P) {base N : Nat} {f : Operand} {ps : Array Tmp} {x y : Code}
    (ihx : ∀ {l : Nat} (n : Nat) (K : Nat → Prop) (s s' : AS) (out : Out) (a : Act) (w : World) (ρ : Nat → Loc) (S : Nat → Prop) (Q : Exit → Act → World → Prop), exec E N n x s = some (out, s') → Rel K ρ S s a w → (∀ K' ρ' S' a' w', Rel K' ρ' S' s' a' w' → Went n K K' S S' ρ ρ' a a' w w' → Q (outX out) a' w') → x.wpIn (FR (some l)) 0 P Q a w)
    (ihy : ∀ {l : Nat} (n : Nat) (K : Nat → Prop) (s s' : AS) (out : Out) (a : Act) (w : World) (ρ : Nat → Loc) (S : Nat → Prop) (Q : Exit → Act → World → Prop), exec E N n y s = some (out, s') → Rel K ρ S s a w → (∀ K' ρ' S' a' w', Rel K' ρ' S' s' a' w' → Went n K K' S S' ρ ρ' a a' w w' → Q (outX out) a' w') → y.wpIn (FR (some l)) 0 P Q a w)
    {g : FuncId} {cs : List AV} {xss : List (List AV)} {keep : List Nat} {s s' : AS} {out : Out} (hf : lookA s.tmps f = .clo g cs) (hs : E.seq g cs = some xss) (hlen : xss.all (fun xs => xs.length == ps.size) = true)
    (he : rounds (fun n s => match exec E N n x s with | some (.normal, s') => exec E N n y s' | _ => none) (canon base keep) ps.toList xss s = some (out, s'))
    {K S : Nat → Prop} {ρ : Nat → Loc} {a : Act} {w : World} (R : Rel K ρ S s a w) {Q : Exit → Act → World → Prop} (hq : ∀ K' ρ' S' a' w', Rel K' ρ' S' s' a' w' → Went base K K' S S' ρ ρ' a a' w w' → Q (outX out) a' w') : (Code.rangeFunc f ps x y).wpIn (FR none) 0 P Q a w := by
  refine wpIn_rangeFunc ?_
  intro fn _
  have hv := R.look f
  rw [hf] at hv
  simp only [V3, V2, V1, P1] at hv
  obtain ⟨lb, hfv, hcs⟩ := hv
  obtain ⟨hB, hOk⟩ := hE.seq g cs xss hs
  have hrun := hOk S w lb R.mem.sb hcs
  obtain ⟨rec, hrec⟩ : ∃ rec : LoopState → Option Code → Loop, rec = fun st pe => { state := st, pending := pe, fn, tmps := a.tmps, params := ps, assign := x, body := y, defers := w.heap.size } := ⟨_, rfl⟩
  obtain ⟨W1, hW1⟩ : ∃ W1, (w.alloc (.deferred (some []))).alloc (.loop (rec .ready none)) = W1 := ⟨_, rfl⟩
  have hL1 : W1.heap[w.heap.size + 1]? = some (.loop (rec .ready none)) := by
    rw [← hW1]; have := World.alloc_heap_new (w.alloc (.deferred (some []))) (.loop (rec .ready none)); rwa [World.size_alloc] at this
  have hK1 : W1.heap[w.heap.size]? = some (.deferred (some [])) := by
    rw [← hW1]; exact (Go.RowKit.Below.heap_alloc _ _ _ (by simp)).trans (World.alloc_heap_new w _)
  have hsz : W1.heap.size = w.heap.size + 2 := by rw [← hW1]; simp
  have hold : ∀ b, b < w.heap.size → W1.heap[b]? = w.heap[b]? := fun b hb => by
    rw [← hW1]; exact (Go.RowKit.Below.heap_alloc _ _ _ (by simp; omega)).trans (Go.RowKit.Below.heap_alloc _ _ _ hb)
  have X1 : ExtV S S w W1 := ⟨by rw [← hW1]; rfl, by rw [← hW1]; rfl, by rw [← hW1]; rfl, by omega, hold, fun _ h => h, fun _ h => .inl h, fun b hb => by have := R.mem.sb b hb; omega⟩
  obtain ⟨H1, Y1⟩ := R.mem.later X1
  have hKl : ¬ K (w.heap.size + 1) := fun h => by have := R.mem.kb _ h; omega
  have hSl : ¬ S (w.heap.size + 1) := fun h => by have := R.mem.sb _ h; omega
  let K2 : Nat → Prop := fun b => K b ∨ b = w.heap.size ∨ b = w.heap.size + 1
  let a1 : Act := { a with defers := mkD w.heap.size :: a.defers }
  have hT0 : Rel K2 ρ S s a1 W1 := by
    refine ⟨R.len, fun t v ht => let ⟨u, hu, hv⟩ := R.tmp t v ht; ⟨u, hu, hv.mono Y1.ss Y1.same Y1.loc⟩, H1.raise (fun b hb => ?_) (fun id b n e hb => ?_), ?_⟩
    · rcases hb with hb | hb | hb
      · have := R.mem.kb b hb; omega
      · omega
      · omega
    · have hlt := (R.mem.lt e).1
      rcases hb with hb | hb | hb
      · exact R.mem.ok id b n e hb
      · omega
      · omega
    · obtain ⟨Ds, h1, h2, h3⟩ := R.dfr
      refine ⟨w.heap.size :: Ds, by simp [a1, h1], List.nodup_cons.2 ⟨fun hm => ?_, h2⟩, fun D hD => ?_⟩
      · have := (Array.getElem?_eq_some_iff.1 (h3 _ hm).2.2).1; omega
      · rcases List.mem_cons.1 hD with rfl | hD
        · exact ⟨.inr (.inl rfl), fun h => by have := R.mem.sb _ h; omega, hK1⟩
        · obtain ⟨q1, q2, q3⟩ := h3 D hD
          exact ⟨.inl q1, q2, (hold D (Array.getElem?_eq_some_iff.1 q3).1).trans q3⟩
  refine ⟨w.heap.size + 1, [mkD w.heap.size], W1, { target := .fn (.func g) lb.toArray, args := #[.func (.yield (w.heap.size + 1)) #[] #[]] }, W1, g,
    #[.func (.yield (w.heap.size + 1)) #[] #[]] ++ lb.toArray, W1, ?_, ?_, fun _ _ => trivial, ?_, (fun q => by cases q), ?_⟩
  · rw [← hW1, hrec]; exact run_enterLoop_outer _ _ _ _ _
  · simp only [resolve, hfv]
    simp [go_sem]
  · obtain ⟨gn, b1, b2, b3⟩ := hB
    have b2' : gn.body.isNone = false := by cases hq : gn.body <;> simp_all
    simp only [invoke, callFunc, run_program', Sem.run_bind, Sem.run_pure, Result.andThen_ok, b1, b3, b2', Bool.false_eq_true, if_false, Array.empty_append, Array.append_empty]
  · let J : Nat → World → Prop := fun k W => ∃ s1 ρ1 S1, Rel K2 ρ1 S1 s1 a1 W ∧ ExtB base K S S1 ρ ρ1 w W ∧ ¬ S1 (w.heap.size + 1) ∧
      rounds (fun n s => match exec E N n x s with | some (.normal, s') => exec E N n y s' | _ => none) (canon base keep) ps.toList (xss.drop k) s1 = some (out, s') ∧ W.heap[w.heap.size + 1]? = some (.loop (rec .ready none))
    let Jx : World → Prop := fun W => ∃ ρ1 S1, Rel K2 ρ1 S1 s' a1 W ∧ ExtB base K S S1 ρ ρ1 w W ∧ ¬ S1 (w.heap.size + 1) ∧ out ≠ .normal ∧ W.heap[w.heap.size + 1]? = some (.loop (rec .done (some (outC out))))
    refine callsFR none ((hrun (w.heap.size + 1) J Jx W1 ?_ ?_ ?_ ?_ ?_).mono ?_)
    · rintro k W ⟨s1, ρ1, S1, _, X, _⟩; exact X.same
    · rintro k W W' ⟨s1, ρ1, S1, RR, X, hn, hr, hl⟩ XV
      obtain ⟨R', Y⟩ := RR.late XV
      exact ⟨s1, ρ1, S1, R', X.trans ((Y.b (base := base)).weaken (fun b hb => .inl hb)), hn, hr, (XV.old _ (Array.getElem?_eq_some_iff.1 hl).1).trans hl⟩
    · rintro W W' ⟨ρ1, S1, RR, X, hn, ho, hl⟩ XV
      obtain ⟨R', Y⟩ := RR.late XV
      exact ⟨ρ1, S1, R', X.trans ((Y.b (base := base)).weaken (fun b hb => .inl hb)), hn, ho, (XV.old _ (Array.getElem?_eq_some_iff.1 hl).1).trans hl⟩
    · rintro k xs vs W ⟨s1, ρ1, S1, RR, X, hn, hr, hl⟩ hxs hLR
      obtain ⟨hk, rfl⟩ := List.getElem?_eq_some_iff.1 hxs
      have hpl : (xss[k]).length = ps.size := by have := List.all_eq_true.1 hlen _ (List.getElem_mem hk); simpa using this
      rw [List.drop_eq_getElem_cons hk] at hr
      simp only [rounds] at hr
      obtain ⟨ρ0, R0, hloc⟩ := RR.canon base keep
      have hbase := canon_base base keep s1
      generalize canon base keep s1 = s0 at hr R0 hbase
      have hvsz : vs.length = ps.size := by rw [← hLR.1]; exact hpl
      have hy := run_yield (P := P) (args := vs.toArray) hl (by rw [hrec]; simpa using hvsz)
      rw [hrec] at hy
      refine ⟨fn, _, x, y, hy, roundIn_of_wpIn trivial ?_⟩
      have RIn : Rel K2 ρ0 S1 { s0 with tmps := putAll s0.tmps ps.toList xss[k] } { tmps := (ps.zip vs.toArray).foldl (fun tmps (t, a) => tmps.setIfInBounds t a) a.tmps, defers := [] } W := by
        have := putAll_rel (ρ := ρ0) (S := S1) (w := W) ps.toList s0.tmps a.tmps xss[k] vs R0.len R0.tmp ⟨hLR.1, fun j c hj => let ⟨v, h1, h2⟩ := hLR.2 j c hj; ⟨v, h1, (h2.mono X.ss (fun _ _ => rfl) (fun _ => .inl rfl)).v3⟩⟩
        have e : (ps.zip vs.toArray).foldl (fun tmps (x : Tmp × Value) => tmps.setIfInBounds x.1 x.2) a.tmps = (ps.toList.zip vs).foldl (fun t p => t.setIfInBounds p.1 p.2) a.tmps := by
          rw [← Array.foldl_toList, Array.toList_zip]
        refine ⟨?_, ?_, R0.mem, Dfr.nil _ _ _⟩
        · show _ = Array.size ((ps.zip vs.toArray).foldl (fun tmps (x : Tmp × Value) => tmps.setIfInBounds x.1 x.2) a.tmps)
          rw [e]; exact this.1
        · intro t v ht
          have h2 := this.2 t v ht
          show ∃ u, ((ps.zip vs.toArray).foldl (fun tmps (x : Tmp × Value) => tmps.setIfInBounds x.1 x.2) a.tmps)[t]? = some u ∧ _
          rw [e]; exact h2
      generalize hsIn : ({ s0 with tmps := putAll s0.tmps ps.toList xss[k] } : AS) = sIn at hr RIn
      cases hx : exec E N s0.heap.length x sIn with
      | none => simp [hx] at hr
      | some p =>
        obtain ⟨oA, sA⟩ := p
        cases oA with
        | ret => simp [hx] at hr
        | exit id => simp [hx] at hr
        | normal =>
          simp only [hx] at hr
          refine ihx (l := w.heap.size + 1) _ K2 sIn sA .normal _ W ρ0 S1 _ hx RIn (fun KA ρA SA aA wA RA XA => ?_)
          have hlA : wA.heap[w.heap.size + 1]? = some (.loop (rec .ready none)) := (XA.ext.kept _ (.inr (.inr rfl))).trans hl
          have hnA : ¬ SA (w.heap.size + 1) := fun h => (XA.ext.new _ h).elim hn (fun q => q (.inr (.inr rfl)))
          have hkA : KA (w.heap.size + 1) := XA.kk _ (.inr (.inr rfl))
          refine ⟨_, run_beginRound hlA (by rw [hrec]), ?_⟩
          have RB := RA.turn (.loop { rec .ready none with state := .busy }) hlA (by simp) hkA hnA
          have hlB : (wA.putObj (w.heap.size + 1) (.loop { rec .ready none with state := .busy })).heap[w.heap.size + 1]? = some (.loop { rec .ready none with state := .busy }) := World.putObj_heap_same (Array.getElem?_eq_some_iff.1 hlA).1
          cases hb : exec E N s0.heap.length y sA with
          | none => simp [hb] at hr
          | some p2 =>
            obtain ⟨oC, s2⟩ := p2
            simp only [hb] at hr
            refine ihy (l := w.heap.size + 1) _ KA sA s2 oC _ _ ρA SA _ hb RB (fun KC ρC SC aC wC RC XC => ?_)
            have hlC : wC.heap[w.heap.size + 1]? = some (.loop { rec .ready none with state := .busy }) := (XC.ext.kept _ hkA).trans hlB
            have hnC : ¬ SC (w.heap.size + 1) := fun h => (XC.ext.new _ h).elim hnA (fun q => q hkA)
            have hkC : KC (w.heap.size + 1) := XC.kk _ hkA
            have X0 : ExtB base K S S1 ρ ρ0 w W := X.trans ⟨rfl, rfl, rfl, Nat.le_refl _, fun _ _ => rfl, fun _ h => h, fun _ h => .inl h, fun _ _ => rfl, fun id hid => .inr (hloc id hid)⟩
            have hall : ∀ (id : Nat), (ρ0 id = .free ∨ ρC id = ρ0 id ∨ ρC id = .gone) := fun id => by
              by_cases hid : id < s0.heap.length
              · rcases XA.ext.loc id hid with e | e | e
                · exact .inl e
                · rcases XC.ext.loc id hid with e' | e' | e'
                  · exact .inl (e ▸ e')
                  · exact .inr (.inl (e'.trans e))
                  · exact .inr (.inr e')
                · rcases XC.ext.loc id hid with e' | e' | e'
                  · rw [e] at e'; cases e'
                  · exact .inr (.inr (e'.trans e))
                  · exact .inr (.inr e')
              · exact .inl (R0.mem.free (by omega))
            have XE : ∀ o, ExtB base K S SC ρ ρC w (wC.putObj (w.heap.size + 1) o) := fun o =>
              (X0.trans ⟨XC.ext.os.trans XA.ext.os, XC.ext.tape.trans XA.ext.tape, XC.ext.output.trans XA.ext.output, Nat.le_trans XA.ext.size (by have := XC.ext.size; rwa [World.putObj_size] at this),
                fun b hb => (XC.ext.kept b (XA.kk b (.inl hb))).trans ((World.putObj_heap_other (show b ≠ w.heap.size + 1 from fun e => hKl (e ▸ hb))).trans (XA.ext.kept b (.inl hb))), fun b hb => XC.ext.ss b (XA.ext.ss b hb),
                fun b hb => (XC.ext.new b hb).elim (fun q => (XA.ext.new b q).imp id (fun r t => r (.inl t))) (fun q => .inr (fun t => q (XA.kk b (.inl t)))),
                fun b hb => (XC.ext.same b (XA.ext.ss b hb)).trans ((World.putObj_heap_other (show b ≠ w.heap.size + 1 from fun e => hn (e ▸ hb))).trans (XA.ext.same b hb)), fun id _ => hall id⟩).turn o hKl hSl
            have RE : ∀ st pe, Rel K2 ρC SC { s0 with heap := s2.heap, frz := s2.frz } a1 (wC.putObj (w.heap.size + 1) (.loop (rec st pe))) := fun st pe => by
              refine ⟨R0.len, fun t v ht => ?_, ?_, ?_⟩
              · obtain ⟨u, hu, hv⟩ := R0.tmp t v ht
                refine ⟨u, hu, hv.mono (fun b hb => XC.ext.ss b (XA.ext.ss b hb)) (fun b hb => ?_) hall⟩
                have hbl : b ≠ w.heap.size + 1 := fun e => hn (e ▸ hb)
                exact (World.putObj_heap_other hbl).trans ((XC.ext.same b (XA.ext.ss b hb)).trans ((World.putObj_heap_other hbl).trans (XA.ext.same b hb)))
              · exact (RC.mem.fewer (fun b hb => XC.kk b (XA.kk b hb))).turn (D := fun b => b = w.heap.size + 1) (fun b e => e ▸ ⟨.inr (.inr rfl), hnC⟩) (fun b _ hb => World.putObj_heap_other hb) (by rw [World.putObj_size]; exact Nat.le_refl _)
              · obtain ⟨Ds, h1, h2, h3⟩ := R0.dfr
                refine ⟨Ds, h1, h2, fun D hD => ?_⟩
                obtain ⟨q1, q2, q3⟩ := h3 D hD
                have hDl : D ≠ w.heap.size + 1 := fun e => by subst e; rw [hl] at q3; cases q3
                exact ⟨q1, fun h => (XC.ext.new D h).elim (fun q => (XA.ext.new D q).elim q2 (fun r => r q1)) (fun q => q (XA.kk D q1)),
                  (World.putObj_heap_other hDl).trans ((XC.ext.kept D (XA.kk D q1)).trans ((World.putObj_heap_other hDl).trans ((XA.ext.kept D q1).trans q3)))⟩
            have hlE : ∀ o, (wC.putObj (w.heap.size + 1) o).heap[w.heap.size + 1]? = some o := fun o => World.putObj_heap_same (Array.getElem?_eq_some_iff.1 hlC).1
            have hend : ∀ jump : Option Code, (Instr.endRound (w.heap.size + 1) jump).run P wC = .ok (.bool jump.isNone) (wC.putObj (w.heap.size + 1) (.loop (rec (if jump.isNone then .ready else .done) jump))) := fun jump => by
              have := run_endRound (P := P) jump hlC
              rw [hrec] at this ⊢; exact this
            cases oC with
            | normal =>
              exact ⟨_, _, hend none, .inl ⟨rfl, _, ρC, SC, RE .ready none, XE _, hnC, hr, hlE _⟩⟩
            | ret =>
              simp only [Option.some.injEq, Prod.mk.injEq] at hr
              obtain ⟨rfl, rfl⟩ := hr
              exact ⟨_, _, hend (some .ret), .inr ⟨rfl, ρC, SC, RE .done (some .ret), XE _, hnC, by simp, hlE _⟩⟩
            | exit id =>
              simp only [Option.some.injEq, Prod.mk.injEq] at hr
              obtain ⟨rfl, rfl⟩ := hr
              exact ⟨_, _, hend (some (.exit id)), .inr ⟨rfl, ρC, SC, RE .done (some (.exit id)), XE _, hnC, by simp, hlE _⟩⟩
    · exact ⟨s, ρ, S, hT0, Y1.b, hSl, by simpa using he, hL1⟩
    · have went : ∀ {ρ1 : Nat → Loc} {S1 : Nat → Prop} {W : World}, ExtB base K S S1 ρ ρ1 w W → Went base K K2 S S1 ρ ρ1 a a1 w W := fun X => ⟨fun b hb => .inl hb, fun D hD => by
        rcases List.mem_cons.1 hD with e | e
        · right; simp only [mkD, Deferred.mk.injEq, Target.collected.injEq] at e; omega
        · exact .inl e, X⟩
      rintro e W2 ⟨⟨v, rfl⟩, (⟨s1, ρ1, S1, RR, X, hn, hr, hl⟩ | ⟨ρ1, S1, RR, X, hn, ho, hl⟩)⟩
      · rw [List.drop_length] at hr
        simp only [rounds, Option.some.injEq, Prod.mk.injEq] at hr
        obtain ⟨rfl, rfl⟩ := hr
        refine ⟨none, _, by have := run_endLoop (P := P) hl (by rw [hrec]; simp); rw [hrec] at this; exact this, ?_⟩
        exact hq _ _ _ _ _ (RR.turn _ hl (by simp) (.inr (.inr rfl)) hn) (went (X.turn _ hKl hSl))
      · refine ⟨some (outC out), _, by have := run_endLoop (P := P) hl (by rw [hrec]; simp); rw [hrec] at this; exact this, ?_⟩
        have fin := fun o => hq _ _ _ _ _ (RR.turn (l := w.heap.size + 1) o hl (by simp) (.inr (.inr rfl)) hn) (went (X.turn o hKl hSl))
        cases out with
        | normal => exact (ho rfl).elim
        | ret => exact wpIn_ret (fin _)
        | exit id => exact wpIn_exit (fin _)
theorem exec_sound (hE : EnvOk E P) (hm : P.follows .mixedOrders = true) {N : Nat} : ∀ (c : Code) {ro : Option Nat} (base : Nat) (K : Nat → Prop) (s s' : AS) (out : Out) (a : Act) (w : World) (ρ : Nat → Loc) (S : Nat → Prop) (Q : Exit → Act → World → Prop), okC E.ref E.dep c = true → (ro = none ∨ noRF c = true) →
    exec E N base c s = some (out, s') → Rel K ρ S s a w → (∀ K' ρ' S' a' w', Rel K' ρ' S' s' a' w' → Went base K K' S S' ρ ρ' a a' w w' → Q (outX out) a' w') → c.wpIn (FR ro) 0 P Q a w := by
  intro c
  induction c with
  | skip =>
    intro ro base K s s' out a w ρ S Q _ hrf he R hq
    simp only [exec, Option.some.injEq, Prod.mk.injEq] at he
    obtain ⟨rfl, rfl⟩ := he
    exact wpIn_skip (hq _ _ _ _ _ R (Went.refl _ _ _ _ _ _))
  | ret =>
    intro ro base K s s' out a w ρ S Q _ hrf he R hq
    simp only [exec, Option.some.injEq, Prod.mk.injEq] at he
    obtain ⟨rfl, rfl⟩ := he
    exact wpIn_ret (hq _ _ _ _ _ R (Went.refl _ _ _ _ _ _))
  | «exit» id =>
    intro ro base K s s' out a w ρ S Q _ hrf he R hq
    simp only [exec, Option.some.injEq, Prod.mk.injEq] at he
    obtain ⟨rfl, rfl⟩ := he
    exact wpIn_exit (hq _ _ _ _ _ R (Went.refl _ _ _ _ _ _))
  | seq x y ihx ihy =>
    intro ro base K s s' out a w ρ S Q hok hrf he R hq
    simp only [okC, Bool.and_eq_true] at hok
    simp only [exec] at he
    cases hx : exec E N base x s with
    | none => simp [hx] at he
    | some p =>
      obtain ⟨o1, s1⟩ := p
      rw [hx] at he
      refine wpIn_seq (ihx base K _ _ _ a w ρ S _ hok.1 (hrf.imp id (fun q => (Bool.and_eq_true _ _ ▸ q).1)) hx R (fun K1 ρ1 S1 a1 w1 R1 X1 => ?_))
      cases o1 with
      | normal =>
        simp only at he
        exact ihy base K1 _ _ _ a1 w1 ρ1 S1 Q hok.2 (hrf.imp id (fun q => (Bool.and_eq_true _ _ ▸ q).2)) he R1 (fun K2 ρ2 S2 a2 w2 R2 X2 => hq _ _ _ _ _ R2 (X1.trans X2))
      | ret =>
        simp only [Option.some.injEq, Prod.mk.injEq] at he
        obtain ⟨rfl, rfl⟩ := he
        exact hq _ _ _ _ _ R1 X1
      | exit id =>
        simp only [Option.some.injEq, Prod.mk.injEq] at he
        obtain ⟨rfl, rfl⟩ := he
        exact hq _ _ _ _ _ R1 X1
  | cond c x y ihx ihy =>
    intro ro base K s s' out a w ρ S Q hok hrf he R hq
    simp only [okC, Bool.and_eq_true] at hok
    simp only [exec] at he
    have hc := R.look c
    split at he
    · rename_i b hb
      rw [hb] at hc
      refine wpIn_cond (bool_of hc) ?_
      cases b with
      | true => exact ihx base K _ _ _ a w ρ S Q hok.1 (hrf.imp id (fun q => (Bool.and_eq_true _ _ ▸ q).1)) (by simpa using he) R hq
      | false => exact ihy base K _ _ _ a w ρ S Q hok.2 (hrf.imp id (fun q => (Bool.and_eq_true _ _ ▸ q).2)) (by simpa using he) R hq
    · cases he
  | block id x ihx =>
    intro ro base K s s' out a w ρ S Q hok hrf he R hq
    simp only [okC] at hok
    simp only [exec] at he
    cases hx : exec E N base x s with
    | none => simp [hx] at he
    | some p =>
      obtain ⟨o1, s1⟩ := p
      rw [hx] at he
      refine wpIn_block (ihx base K _ _ _ a w ρ S _ hok hrf hx R (fun K1 ρ1 S1 a1 w1 R1 X1 => ?_))
      cases o1 with
      | normal =>
        simp only [Option.some.injEq, Prod.mk.injEq] at he
        obtain ⟨rfl, rfl⟩ := he
        exact hq _ _ _ _ _ R1 X1
      | ret =>
        simp only [Option.some.injEq, Prod.mk.injEq] at he
        obtain ⟨rfl, rfl⟩ := he
        exact hq _ _ _ _ _ R1 X1
      | exit j =>
        simp only at he
        show Exit.inBlock id Q (.exit j) a1 w1
        simp only [Exit.inBlock]
        split at he
        · rename_i hj
          simp only [Option.some.injEq, Prod.mk.injEq] at he
          obtain ⟨rfl, rfl⟩ := he
          rw [if_pos hj]; exact hq _ _ _ _ _ R1 X1
        · rename_i hj
          simp only [Option.some.injEq, Prod.mk.injEq] at he
          obtain ⟨rfl, rfl⟩ := he
          rw [if_neg hj]; exact hq _ _ _ _ _ R1 X1
  | loop x ihx =>
    intro ro base K s s' out a w ρ S Q hok hrf he R hq
    simp only [okC] at hok
    simp only [exec] at he
    exact loop_sound (fun K s s' out a w ρ S Q he R hq => ihx base K s s' out a w ρ S Q hok hrf he R hq) he R hq
  | region id ops draw =>
    intro ro base K s s' out a w ρ S Q hok hrf he R hq
    simp only [okC, Bool.or_eq_true, Bool.not_eq_true'] at hok
    simp only [exec] at he
    cases hr : runRegion E id ops.toList draw s with
    | none => simp [hr] at he
    | some s1 =>
      simp only [hr, Option.some.injEq, Prod.mk.injEq] at he
      obtain ⟨rfl, rfl⟩ := he
      exact region_sound hE hm (fun hd => hok.resolve_left (by rw [hd]; simp)) hr R (fun ρ' S' a' w' R' hdf X => hq _ _ _ _ _ R' ⟨fun _ h => h, fun _ h => .inl (hdf.dfr ▸ h), X.b⟩)
  | rangeFunc f ps x y ihx ihy =>
    intro ro base K s s' out a w ρ S Q hok hrf he R hq
    have hro : ro = none := hrf.resolve_right (by simp [noRF])
    subst hro
    simp only [okC, Bool.and_eq_true] at hok
    simp only [exec] at he
    split at he
    · rename_i g cs hf
      split at he
      · rename_i xss hs
        split at he
        · rename_i hlen
          exact range_sound hE (fun n K s s' out a w ρ S Q he R hq => ihx n K s s' out a w ρ S Q hok.1.2 (.inr hok.1.1.1) he R hq) (fun n K s s' out a w ρ S Q he R hq => ihy n K s s' out a w ρ S Q hok.2 (.inr hok.1.1.2) he R hq) hf hs hlen he R hq
        · cases he
      · cases he
    · cases he
  | _ => intro ro base K s s' out a w ρ S Q hok hrf he R hq; simp only [exec, reduceCtorEq] at he
end
/- Functions. -/
section
variable {K : Nat → Prop} {P : Program} {E : Env}

theorem res_of {ρ : Nat → Loc} {S : Nat → Prop} {s : AS} {a : Act} {w : World} (R : Rel K ρ S s a w) : ∀ {rs : List ResultVar} {vs : List AV}, resA P s rs = some vs →
    ∃ us : List Value, (rs.mapM fun | .tmp t => pure (a.tmps.getD t Go.undef) | .cell x t => do loadVar t (← asAddr (a.tmps.getD x Go.undef)) : Sem (List Value)).run P w = .ok us w ∧ vs.length = us.length ∧ ∀ (j : Nat) (c : AV), vs[j]? = some c → ∃ u, us[j]? = some u ∧ V2 ρ S w c u
  | [], vs, h => by
    simp only [resA, Option.some.injEq] at h; subst h
    exact ⟨[], rfl, rfl, fun j c hj => by simp at hj⟩
  | .tmp t :: r, vs, h => by
    simp only [resA] at h
    have hl := R.look (.tmp t)
    simp only [lookA, Act.eval] at hl
    split at h
    · cases h
    · rename_i hnt
      obtain ⟨vs', h1, rfl⟩ := Option.map_eq_some_iff.1 h
      obtain ⟨us, g1, g2, g3⟩ := res_of R h1
      refine ⟨a.tmps.getD t Go.undef :: us, by simp only [List.mapM_cons, Sem.run_bind, Sem.run_pure, Result.andThen_ok, g1], by simp [g2], fun j c hj => ?_⟩
      cases j with
      | zero =>
        simp at hj; subst hj
        refine ⟨_, rfl, ?_⟩
        generalize hq : s.tmps.getD t .undef = q at hl hnt
        have hq' : s.tmps[t]?.getD .undef = q := by rw [← hq]; simp [List.getD_eq_getElem?_getD]
        rw [hq']
        cases q <;> first | exact hl | exact (hnt _ rfl).elim
      | succ j => simpa using g3 j c (by simpa using hj)
  | .cell x t :: r, vs, h => by
    simp only [resA] at h
    have hl := R.look (.tmp x)
    simp only [lookA, Act.eval] at hl
    split at h
    · rename_i id off e1
      rw [e1] at hl
      cases hb : s.heap[id]? with
      | none => simp [hb] at h
      | some blk =>
        simp only [hb] at h
        cases hc : blk.cells with
        | none => simp [hc] at h
        | some cs =>
          simp only [hc] at h
          cases hp : partK cs off (kindT P t) with
          | none => simp [hp] at h
          | some q =>
            simp only [hp] at h
            obtain ⟨vs', h1, rfl⟩ := Option.map_eq_some_iff.1 h
            obtain ⟨us, g1, g2, g3⟩ := res_of R h1
            have hv := v1_of hl (by simp) (by simp) (by simp) (by simp)
            simp only [V1] at hv
            have hbr := R.mem.blk id
            rw [hb] at hbr
            have hcells : ∃ b ccs e, ρ id = .at b ccs.size ∧ w.heap[b]? = some (.cells ccs e (0, 0)) ∧ ∀ (j : Nat) (c : AV), cs[j]? = some c → ∃ v, ccs[j]? = some v ∧ V1 ρ S w c v := by
              cases blk <;> simp only [Blk.cells, Option.some.injEq, reduceCtorEq] at hc
              · subst hc
                rcases hbr with ⟨hq, _⟩ | ⟨b, ccs, e, k1, k2, k3⟩
                · rw [hq] at hv; exact hv.elim
                · exact ⟨b, ccs, e, k1, k2, fun j c hj => let ⟨v, a, b⟩ := k3 j c hj; ⟨v, a, b.v1⟩⟩
              · subst hc; exact hbr
            obtain ⟨b, ccs, e, k1, k2, k3⟩ := hcells
            rw [k1] at hv; simp only at hv
            have hA : At (V1 ρ S w) w b 0 cs := fun j c hj => by
              obtain ⟨v, hv, h1⟩ := k3 j c hj
              exact ⟨v, by simp [World.cell?, k2, hv], h1⟩
            obtain ⟨v, m1, m2⟩ := load_at hA hp
            rw [Nat.zero_add] at m1
            have haddr : (asAddr (a.tmps.getD x Go.undef)).run P w = .ok ⟨b, off, none⟩ w := by rw [hv]; rfl
            refine ⟨v :: us, by simp only [List.mapM_cons, haddr, Sem.run_bind, Sem.run_pure, Result.andThen_ok, m1, g1], by simp [g2], fun j c hj => ?_⟩
            cases j with
            | zero => simp at hj; subst hj; exact ⟨v, rfl, m2⟩
            | succ j => simpa using g3 j c (by simpa using hj)
    · cases h
theorem results_of {ρ : Nat → Loc} {S : Nat → Prop} {s : AS} {a : Act} {w : World} (R : Rel K ρ S s a w) {fn : Func} {vs : List AV} (h : resA P s fn.results.toList = some vs) :
    ∃ u, (results fn a.tmps).run P w = .ok u w ∧ V3 ρ S w (oneOr vs) u := by
  obtain ⟨us, h1, h2, h3⟩ := res_of R h
  have hr : (results fn a.tmps).run P w = .ok (if h : us.toArray.size = 1 then us.toArray[0] else .tuple us.toArray) w := by
    unfold results
    rw [Array.mapM_eq_mapM_toList]
    simp only [Sem.run_bind, Sem.run_map]
    erw [h1]
    rfl
  refine ⟨_, hr, ?_⟩
  cases vs with
  | nil =>
    cases us with
    | nil => simp only [oneOr, V3]; exact ⟨#[], by simp, rfl, fun j c hj => by simp at hj⟩
    | cons u r => simp at h2
  | cons c r =>
    cases us with
    | nil => simp at h2
    | cons u us =>
      obtain ⟨u', hu, hc⟩ := h3 0 c rfl
      simp at hu; subst hu
      cases r with
      | nil =>
        have : us = [] := List.eq_nil_of_length_eq_zero (by simpa using h2.symm)
        subst this
        simpa [oneOr] using hc.v3
      | cons c' r' =>
        have hne : ¬ (u :: us).toArray.size = 1 := by simp at h2 ⊢; intro e; subst e; simp at h2
        simp only [dif_neg hne, oneOr, V3]
        exact ⟨_, rfl, by simpa using h2, fun j d hj => let ⟨x, a, b⟩ := h3 j d hj; ⟨x, by simpa using a, b⟩⟩

theorem start_rel {ρ : Nat → Loc} {S : Nat → Prop} {w : World} {h : List Blk} {z : List Bool} (H : Heap K ρ S h z w) {args : List AV} {vs : List Value} (ha : LR (V3 ρ S w) args vs) (fn : Func) :
    Rel K ρ S (startA fn args h z) { tmps := vs.toArray ++ Array.replicate (fn.ntmps - vs.toArray.size) Go.undef, defers := [] } w := by
  refine ⟨by simp [startA, ha.1], fun t v ht => ?_, H, Dfr.nil _ _ _⟩
  simp only [startA] at ht
  rw [List.getElem?_append] at ht
  split at ht
  · rename_i hl
    obtain ⟨u, hu, hv⟩ := ha.2 t v ht
    exact ⟨u, by rw [Array.getElem?_append, if_pos (by simp; rw [← ha.1]; exact hl)]; simpa using hu, hv⟩
  · rename_i hl
    rw [List.getElem?_replicate] at ht
    split at ht
    · rename_i hr
      cases ht
      refine ⟨Go.undef, ?_, by simp only [V3, V2]⟩
      rw [Array.getElem?_append, if_neg (by simp; rw [← ha.1]; omega)]
      simp only [List.size_toArray]
      rw [Array.getElem?_replicate, if_pos (by rw [← ha.1]; exact hr)]
    · cases ht

theorem map_inj {α β : Type} {f : α → β} (hf : Function.Injective f) : ∀ {l m : List α}, l.map f = m.map f → l = m
  | [], [], _ => rfl
  | [], _ :: _, h => by simp at h
  | _ :: _, [], h => by simp at h
  | a :: l, b :: m, h => by
    simp only [List.map_cons, List.cons.injEq] at h
    rw [hf h.1, map_inj hf h.2]
/-- At a function's end the marks of its ranges are taken up. -/
theorem leaves_marks {ρ : Nat → Loc} {S : Nat → Prop} {s : AS} {fn : Func} {vs : List AV} (h : resA P s fn.results.toList = some vs) {R : Ending → World → Prop} : ∀ (Ds : List Nat) (a : Act) (w : World), a.defers = Ds.map mkD → Rel K ρ S s a w →
    (∀ (a' : Act) (w' : World), Rel K ρ S s a' w' → a'.tmps = a.tmps → (∀ b, (∀ D ∈ Ds, b ≠ D) → w'.heap[b]? = w.heap[b]?) → w'.heap.size = w.heap.size → w'.os = w.os → w'.tape = w.tape → w'.output = w.output → ∀ u, (results fn a.tmps).run P w' = .ok u w' → V3 ρ S w' (oneOr vs) u → R (.returned u) w') →
    LeavesInM Fence.wide 0 P fn a.tmps R a.defers .returning w
  | [], a, w, hd, Rl, hR => by
    rw [hd]
    obtain ⟨u, g1, g2⟩ := results_of Rl h
    exact ⟨u, g1, hR a w Rl rfl (fun _ _ => rfl) rfl rfl rfl rfl u g1 g2⟩
  | D :: Ds, a, w, hd, Rl, hR => by
    obtain ⟨Ds', h1, h2, h3⟩ := Rl.dfr
    have e : Ds' = D :: Ds := by
      have hinj : Function.Injective mkD := fun x y e => by simpa [mkD] using e
      have := h1.symm.trans hd
      exact map_inj hinj this
    subst e
    obtain ⟨q1, q2, q3⟩ := h3 D (by simp)
    rw [hd]
    refine ⟨by simp, .inl ⟨D, _, rfl, run_takeDeferred q3, ?_⟩⟩
    have hne : ∀ D' ∈ Ds, D' ≠ D := fun D' hD' e => (List.nodup_cons.1 h2).1 (e ▸ hD')
    have R1 : Rel K ρ S s { a with defers := Ds.map mkD } (w.putObj D (.deferred none)) := by
      refine ⟨Rl.len, fun t v ht => let ⟨u, hu, hv⟩ := Rl.tmp t v ht; ⟨u, hu, hv.mono (fun _ h => h) (fun b hb => World.putObj_heap_other (show b ≠ D from fun e => q2 (e ▸ hb))) (fun _ => .inr (.inl rfl))⟩,
        Rl.mem.turn (D := fun b => b = D) (fun b e => e ▸ ⟨q1, q2⟩) (fun b _ hb => World.putObj_heap_other hb) (by rw [World.putObj_size]; exact Nat.le_refl _),
        ⟨Ds, rfl, (List.nodup_cons.1 h2).2, fun D' hD' => let ⟨r1, r2, r3⟩ := h3 D' (by simp [hD']); ⟨r1, r2, (World.putObj_heap_other (hne D' hD')).trans r3⟩⟩⟩
    exact leaves_marks h Ds { a with defers := Ds.map mkD } _ rfl R1 (fun a' w' Ra e1 e2 e3 e4 e5 e6 u e7 e8 => hR a' w' Ra e1 (fun b hb => (e2 b (fun D' hD' => hb D' (by simp [hD']))).trans (World.putObj_heap_other (hb D (by simp)))) (e3.trans World.putObj_size) e4 e5 e6 u e7 e8)

theorem body_sound (hE : EnvOk E P) (hm : P.follows .mixedOrders = true) {N : Nat} {f : FuncId} {fn : Func} (hf : P.funcs[f]? = some fn) (hok : ∀ c, fn.body = some c → okC E.ref E.dep c = true)
    {args : List AV} {h h' : List Blk} {z z' : List Bool} {r : AV} (hb : body E N fn args h z = some (r, h', z')) {ρ : Nat → Loc} {S : Nat → Prop} {w : World} {vs : List Value} (H : Heap K ρ S h z w) (ha : LR (V3 ρ S w) args vs) :
    Calls P f vs.toArray w (fun e w' => ∃ v ρ' S', e = .returned v ∧ V3 ρ' S' w' r v ∧ Heap K ρ' S' h' z' w' ∧ ExtB h.length K S S' ρ ρ' w w') := by
  unfold body at hb
  cases hc : fn.body with
  | none => simp [hc] at hb
  | some c =>
    simp only [hc] at hb
    refine (callsIn_wide (n := 0)).1 (callsIn_of_wp_marks hf hc trivial ?_ rfl)
    have fin : ∀ {out : Out} {s : AS}, exec E N h.length c (startA fn args h z) = some (out, s) → (out = .normal ∨ out = .ret) → (match resA E.P s fn.results.toList with | some vs => some (oneOr vs, s.heap, s.frz) | none => none) = some (r, h', z') →
        c.wpIn Fence.wide 0 P (bodyPostM Fence.wide 0 P fn fun e w' => ∃ v ρ' S', e = .returned v ∧ V3 ρ' S' w' r v ∧ Heap K ρ' S' h' z' w' ∧ ExtB h.length K S S' ρ ρ' w w') { tmps := vs.toArray ++ Array.replicate (fn.ntmps - vs.toArray.size) Go.undef, defers := [] } w := by
      intro out s hx ho hr
      refine exec_sound hE hm c (ro := none) h.length K _ _ _ _ _ ρ S _ (hok c hc) (.inl rfl) hx (start_rel H ha fn) (fun K' ρ' S' a' w' R' X => ?_)
      rw [hE.eP] at hr
      cases hq : resA P s fn.results.toList with
      | none => simp [hq] at hr
      | some us =>
        simp only [hq, Option.some.injEq, Prod.mk.injEq] at hr
        obtain ⟨rfl, rfl, rfl⟩ := hr
        obtain ⟨Ds, d1, d2, d3⟩ := R'.dfr
        have dK : ∀ D ∈ Ds, w.heap.size ≤ D := fun D hD => (X.marks D (by rw [d1]; exact List.mem_map_of_mem hD)).resolve_left (by simp)
        have L := leaves_marks (P := P) hq (R := fun e w' => ∃ v ρ' S', e = .returned v ∧ V3 ρ' S' w' (oneOr us) v ∧ Heap K ρ' S' s.heap s.frz w' ∧ ExtB h.length K S S' ρ ρ' w w') Ds a' w' d1 R' (fun a2 w2 Ra e1 e2 e3 e4 e5 e6 u e7 e8 =>
          ⟨u, ρ', S', rfl, e8, Ra.mem.fewer X.kk, ⟨e4.trans X.ext.os, e5.trans X.ext.tape, e6.trans X.ext.output, by rw [e3]; exact X.ext.size,
            fun b hb => (e2 b (fun D hD e => by have := H.kb b hb; have := dK D hD; omega)).trans (X.ext.kept b hb), X.ext.ss, X.ext.new,
            fun b hb => (e2 b (fun D hD e => by have := H.sb b hb; have := dK D hD; omega)).trans (X.ext.same b hb), X.ext.loc⟩⟩)
        rcases ho with rfl | rfl
        · exact L
        · exact L
    split at hb
    · rename_i s hx; exact fin hx (.inl rfl) hb
    · rename_i s hx; exact fin hx (.inr rfl) hb
    · cases hb

/-- A function of Go, and what is asked of its text once. -/
def Fits (P : Program) (ref : FuncId → Bool) (dep : Nat → List (List Nat × List Nat × Bool)) (fn : Func) : Bool :=
  match fn.body with | some c => okC ref dep c && !(fn.name == "runtime.NumGoroutine") | none => false
theorem Fits.body {ref : FuncId → Bool} {dep : Nat → List (List Nat × List Nat × Bool)} {f : FuncId} {fn : Func} (hf : P.funcs[f]? = some fn) (h : Fits P ref dep fn = true) : Body P f ∧ ∀ c, fn.body = some c → okC ref dep c = true := by
  unfold Fits at h
  split at h
  · rename_i c hc
    simp only [Bool.and_eq_true, Bool.not_eq_true'] at h
    exact ⟨⟨fn, hf, by rw [hc]; rfl, h.2⟩, fun c' hc' => by rw [hc] at hc'; cases hc'; exact h.1⟩
  · cases h
theorem okR_body (hE : EnvOk E P) (hm : P.follows .mixedOrders = true) {N : Nat} {f : FuncId} {fn : Func} (hf : P.funcs[f]? = some fn) (hfit : Fits P E.ref E.dep fn = true)
    {as : List AV} {h h' : List Blk} {z z' : List Bool} {r : AV} (hb : body E N fn as h z = some (r, h', z')) : OkR P f as h z r h' z' := by
  obtain ⟨hB, hok⟩ := Fits.body hf hfit
  refine ⟨hB, fun K ρ S w args H ha => (body_sound hE hm hf hok hb H ha).mono fun e w' ⟨v, ρ', S', he, hv, H', X⟩ => ⟨v, ρ', S', he, hv, H', ⟨X.os, X.tape, X.output, X.size, X.kept, X.ss, X.new, X.same, fun id => ?_⟩⟩⟩
  by_cases hid : id < h.length
  · exact X.loc id hid
  · exact .inl (H.free (by omega))
theorem reifyR_sound (P : Program) {ρ : Nat → Loc} {S : Nat → Prop} {w : World} {h : List Blk} {z : List Bool} (H : Heap K ρ S h z w) {r r' : AV} {f : List Nat} {v : Value} (hr : reifyR (h[·]?) r = some (r', f)) (hv : V3 ρ S w r v) : V3 none' (Sf S ρ f) w r' v := by
  have C : Ctx (⟨P, fun _ => false, fun _ _ => none, fun _ _ _ _ => none, fun _ => [], fun _ => [], fun _ _ => none⟩ : Env) P K ρ S h z w (fun | .func f => .fn f | _ => .any) (fun | .func f => .func (.func f) #[] #[] | _ => Go.undef) (h[·]?) (fun i => z.getD i false) :=
    ⟨rfl, H, fun x => by cases x <;> first | trivial | (simp only [V3, V2, V1, P1]), fun _ => rfl, fun _ _ h => h, fun _ h => h⟩
  cases r with
  | tup us =>
    simp only [reifyR] at hr
    cases h1 : reifyA (h[·]?) us with
    | none => simp [h1] at hr
    | some p =>
      obtain ⟨rs, a⟩ := p
      simp only [h1, Option.some.injEq, Prod.mk.injEq] at hr
      obtain ⟨rfl, rfl⟩ := hr
      simp only [V3] at hv ⊢
      obtain ⟨vs, rfl, hc⟩ := hv
      have := reifyA_sound C h1 (vs := vs.toList) ⟨by simpa using hc.1, fun j c hj => let ⟨v, a, b⟩ := hc.2 j c hj; ⟨v, by simpa using a, b.v3⟩⟩
      exact ⟨vs, rfl, by simpa using this.1, fun j c hj => let ⟨v, a, b⟩ := this.2 j c hj; ⟨v, by simpa using a, b⟩⟩
  | _ => simp only [reifyR] at hr; exact (reify_sound C hr hv).v3
theorem okV_body (hE : EnvOk E P) (hm : P.follows .mixedOrders = true) {N : Nat} {f : FuncId} {fn : Func} (hf : P.funcs[f]? = some fn) (hfit : Fits P E.ref E.dep fn = true)
    {as : List AV} {r : AV} (hb : bodyV E N fn as = some r) : OkV P f as r := by
  obtain ⟨hB, hok⟩ := Fits.body hf hfit
  refine ⟨hB, fun S w args hS ha => ?_⟩
  unfold bodyV at hb
  cases hbd : body E N fn as [] [] with
  | none => simp [hbd] at hb
  | some p =>
    obtain ⟨v0, h', z'⟩ := p
    simp only [hbd] at hb
    obtain ⟨⟨r', f'⟩, hr, rfl⟩ := Option.map_eq_some_iff.1 hb
    have H : Heap (fun b => b < w.heap.size) none' S [] [] w := ⟨fun id => by simp [BR, none'], fun i j b n m h => by simp [none'] at h, fun id b n h => by simp [none'] at h, fun id b n h => by simp [none'] at h, rfl, hS, fun _ h => h⟩
    refine (body_sound hE hm hf hok hbd H ⟨ha.1, fun j c hj => let ⟨v, a, b⟩ := ha.2 j c hj; ⟨v, a, b.v3⟩⟩).mono fun e w' ⟨v, ρ', S', he, hv, H', X⟩ => ⟨v, Sf S' ρ' f', he, reifyR_sound P H' hr hv, ?_⟩
    refine ⟨X.os, X.tape, X.output, X.size, X.kept, fun b hb => .inl (X.ss b hb), fun b hb => ?_, fun b hb => ?_⟩
    · rcases hb with hb | ⟨i, _, n, hn⟩
      · exact (X.new b hb).imp id (fun h => Nat.le_of_not_lt h)
      · exact .inr (Nat.le_of_not_lt (H'.ok _ _ _ hn))
    · rcases hb with hb | ⟨i, _, n, hn⟩
      · exact H'.sb b hb
      · exact (H'.lt hn).1

/-- All calls down to a depth. -/
theorem envK_ok {ref : FuncId → Bool} {prim : FuncId → Option (List AV → List Blk → List Bool → Option (AV × List Blk × List Bool))} {keep : FuncId → Nat → List Nat} {dep : FuncId → Nat → List (List Nat × List Nat × Bool)} (hm : P.follows .mixedOrders = true)
    (hfit : ∀ f fn, P.funcs[f]? = some fn → Fits P ref (dep f) fn = true ∨ (∀ E N as h z, E.ref = ref → E.dep = dep f → body E N fn as h z = none))
    (hprim : ∀ f p, prim f = some p → ∀ as h z r h' z', p as h z = some (r, h', z') → OkR P f as h z r h' z') : ∀ (k : Nat) (f : FuncId), EnvOk (envK P ref prim keep dep k f) P
  | 0, f => ⟨rfl, fun _ _ _ h => by simp [envK] at h, fun _ _ _ _ _ _ _ h => by simp [envK] at h, fun _ _ _ h => by simp [envK] at h⟩
  | k + 1, f => by
    have ih := fun g => envK_ok hm hfit hprim k g (keep := keep)
    have hr : ∀ g, (envK P ref prim keep dep k g).ref = ref := fun g => by cases k <;> rfl
    have hd : ∀ g, (envK P ref prim keep dep k g).dep = dep g := fun g => by cases k <;> rfl
    refine ⟨rfl, fun g as r h => ?_, fun g as hh z r h' z' h => ?_, fun _ _ _ h => by simp [envK] at h⟩
    · simp only [envK] at h
      cases hg : P.funcs[g]? with
      | none => simp [hg] at h
      | some fn =>
        simp only [hg] at h
        rcases hfit g fn hg with q | q
        · exact .inl (okV_body (ih g) hm hg (by rw [hr, hd]; exact q) h)
        · unfold bodyV at h; rw [q _ _ _ _ _ (hr g) (hd g)] at h; cases h
    · simp only [envK] at h
      split at h
      · rename_i p hp; exact hprim g p hp _ _ _ _ _ _ h
      · cases hg : P.funcs[g]? with
        | none => simp [hg] at h
        | some fn =>
          simp only [hg] at h
          rcases hfit g fn hg with q | q
          · exact okR_body (ih g) hm hg (by rw [hr, hd]; exact q) h
          · rw [q _ _ _ _ _ (hr g) (hd g)] at h; cases h
end
/- The abstract run, piece by piece: what is left to do as a list. -/

/-- What is left to do. -/
inductive Todo where
  | code (c : Code)
  | mark (id : Nat)
  | again (c : Code)

def popTo (id : Nat) : List Todo → Option (List Todo)
  | [] => none
  | .mark j :: k => if j = id then some k else popTo id k
  | _ :: k => popTo id k

/-- The end of a function: its results. -/
def finR0 (P : Program) (rs : Array ResultVar) (s : AS) : Option (AV × List Blk × List Bool) :=
  match resA P s rs.toList with | some vs => some (oneOr vs, s.heap, s.frz) | none => none
def finV0 (P : Program) (rs : Array ResultVar) (s : AS) : Option AV :=
  match resA P s rs.toList with | some vs => (match reifyR (s.heap[·]?) (oneOr vs) with | some p => some p.1 | none => none) | none => none
def finR (P : Program) (rs : Array ResultVar) : Out → AS → Option (AV × List Blk × List Bool)
  | .normal, s => finR0 P rs s
  | .ret, s => finR0 P rs s
  | .exit _, _ => none
def finV (P : Program) (rs : Array ResultVar) : Out → AS → Option AV
  | .normal, s => finV0 P rs s
  | .ret, s => finV0 P rs s
  | .exit _, _ => none
/-- A round's end: how it is left, and the state. -/
def rsO (o : Out) (s : AS) : Option (Out × AS) := some (o, s)
/-- The rounds of a range over a function, from some number of loops' rounds on. -/
def ARnd (E : Env) (base : Nat) (a b : Code) (ps : List Tmp) (xss : List (List AV)) (s : AS) (o : Out × AS) : Prop :=
  ∃ n, ∀ m, n ≤ m → rounds (fun n s => match exec E m n a s with | some (.normal, s') => exec E m n b s' | _ => none) (canon base (E.keep (firstR b))) ps xss s = some o

/-- From here on the function ends so. -/
inductive AEnds {R : Type} (E : Env) (rs : Out → AS → Option R) (base : Nat) : List Todo → AS → R → Prop where
  | nil {s r} : rs .normal s = some r → AEnds E rs base [] s r
  | ret {k s r} : rs .ret s = some r → AEnds E rs base (.code .ret :: k) s r
  | skip {k s r} : AEnds E rs base k s r → AEnds E rs base (.code .skip :: k) s r
  | mark {id k s r} : AEnds E rs base k s r → AEnds E rs base (.mark id :: k) s r
  | exit {id k k' s r} : popTo id k = some k' → AEnds E rs base k' s r → AEnds E rs base (.code (.exit id) :: k) s r
  | leave {id k s r} : popTo id k = none → rs (.exit id) s = some r → AEnds E rs base (.code (.exit id) :: k) s r
  | seq {a b k s r} : AEnds E rs base (.code a :: .code b :: k) s r → AEnds E rs base (.code (.seq a b) :: k) s r
  | cond {c x y k s r b} : lookA s.tmps c = .bool b → AEnds E rs base (.code (if b then x else y) :: k) s r → AEnds E rs base (.code (.cond c x y) :: k) s r
  | block {id a k s r} : AEnds E rs base (.code a :: .mark id :: k) s r → AEnds E rs base (.code (.block id a) :: k) s r
  | region {id ops d k s s' r} : runRegion E id ops.toList d s = some s' → AEnds E rs base k s' r → AEnds E rs base (.code (.region id ops d) :: k) s r
  | loop {a k s r} : AEnds E rs base (.code a :: .again a :: k) (canon base (E.keep (firstR a)) s) r → AEnds E rs base (.code (.loop a) :: k) s r
  | again {a k s r} : AEnds E rs base (.code a :: .again a :: k) (canon base (E.keep (firstR a)) s) r → AEnds E rs base (.again a :: k) s r
  | range {f ps a b k g cs xss s s' r} : lookA s.tmps f = .clo g cs → E.seq g cs = some xss → xss.all (fun xs => xs.length == ps.size) = true → ARnd E base a b ps.toList xss s (.normal, s') → AEnds E rs base k s' r → AEnds E rs base (.code (.rangeFunc f ps a b) :: k) s r
  | rangeR {f ps a b k g cs xss s s' r} : lookA s.tmps f = .clo g cs → E.seq g cs = some xss → xss.all (fun xs => xs.length == ps.size) = true → ARnd E base a b ps.toList xss s (.ret, s') → rs .ret s' = some r → AEnds E rs base (.code (.rangeFunc f ps a b) :: k) s r
  | rangeX {f ps a b k k' g cs xss id s s' r} : lookA s.tmps f = .clo g cs → E.seq g cs = some xss → xss.all (fun xs => xs.length == ps.size) = true → ARnd E base a b ps.toList xss s (.exit id, s') → popTo id k = some k' → AEnds E rs base k' s' r → AEnds E rs base (.code (.rangeFunc f ps a b) :: k) s r

section
variable {E : Env} {R : Type} {rs : Out → AS → Option R} {base : Nat} {k : List Todo} {s : AS} {r : R}

/-- What runs to an end from some number of rounds on. -/
def AEv (E : Env) (base : Nat) (c : Code) (s : AS) (o : Out × AS) : Prop := ∃ n, ∀ m, n ≤ m → exec E m base c s = some o
/-- A loop's rounds. -/
def AEvL (E : Env) (base : Nat) (a : Code) (s : AS) (o : Out × AS) : Prop := ∃ n, ∀ N m, n ≤ N → n ≤ m → loopN (exec E N base a) (canon base (E.keep (firstR a))) m s = some o

/-- The meaning of a list of what is left to do. -/
def Means {R : Type} (E : Env) (rs : Out → AS → Option R) (base : Nat) : List Todo → AS → R → Prop
  | [], s, r => rs .normal s = some r
  | .code c :: k, s, r => ∃ o, AEv E base c s o ∧ match o.1 with
    | .normal => Means E rs base k o.2 r
    | .ret => rs .ret o.2 = some r
    | .exit id => popM E rs base id k o.2 r
  | .mark _ :: k, s, r => Means E rs base k s r
  | .again a :: k, s, r => ∃ o, AEvL E base a s o ∧ match o.1 with
    | .normal => Means E rs base k o.2 r
    | .ret => rs .ret o.2 = some r
    | .exit id => popM E rs base id k o.2 r
where
  popM {R : Type} (E : Env) (rs : Out → AS → Option R) (base : Nat) (id : Nat) : List Todo → AS → R → Prop
  | [], s, r => rs (.exit id) s = some r
  | .mark j :: k, s, r => if j = id then Means E rs base k s r else popM E rs base id k s r
  | _ :: k, s, r => popM E rs base id k s r
theorem popM_of : ∀ {k k' : List Todo} {id : Nat}, popTo id k = some k' → Means E rs base k' s r → Means.popM E rs base id k s r
  | [], _, _, h, _ => by simp [popTo] at h
  | .mark j :: k, k', id, h, hm => by
    simp only [popTo] at h
    simp only [Means.popM]
    split at h
    · rename_i e; cases h; rw [if_pos e]; exact hm
    · rename_i e; rw [if_neg e]; exact popM_of h hm
  | .code _ :: k, k', id, h, hm => by simp only [popTo] at h; simp only [Means.popM]; exact popM_of h hm
  | .again _ :: k, k', id, h, hm => by simp only [popTo] at h; simp only [Means.popM]; exact popM_of h hm
theorem popM_none : ∀ {k : List Todo} {id : Nat}, popTo id k = none → rs (.exit id) s = some r → Means.popM E rs base id k s r
  | [], _, _, h => h
  | .mark j :: k, id, h, hm => by
    simp only [popTo] at h
    simp only [Means.popM]
    split at h
    · cases h
    · rename_i e; rw [if_neg e]; exact popM_none h hm
  | .code _ :: k, id, h, hm => by simp only [popTo] at h; simp only [Means.popM]; exact popM_none h hm
  | .again _ :: k, id, h, hm => by simp only [popTo] at h; simp only [Means.popM]; exact popM_none h hm
theorem AEv.range {f : Operand} {ps : Array Tmp} {a b : Code} {g : FuncId} {cs : List AV} {xss : List (List AV)} {o : Out × AS} (h1 : lookA s.tmps f = .clo g cs) (h2 : E.seq g cs = some xss) (h3 : xss.all (fun xs => xs.length == ps.size) = true) (h4 : ARnd E base a b ps.toList xss s o) : AEv E base (.rangeFunc f ps a b) s o :=
  let ⟨n, hn⟩ := h4
  ⟨n, fun m hm => by simp only [exec, h1, h2, h3, if_true]; exact hn m hm⟩
theorem AEnds.means (h : AEnds E rs base k s r) : Means E rs base k s r := by
  induction h with
  | nil h => exact h
  | ret h => exact ⟨(.ret, _), ⟨0, fun _ _ => rfl⟩, h⟩
  | skip _ ih => exact ⟨(.normal, _), ⟨0, fun _ _ => rfl⟩, ih⟩
  | mark _ ih => exact ih
  | exit hp _ ih => exact ⟨(.exit _, _), ⟨0, fun _ _ => rfl⟩, popM_of hp ih⟩
  | leave hp h => exact ⟨(.exit _, _), ⟨0, fun _ _ => rfl⟩, popM_none hp h⟩
  | range h1 h2 h3 h4 _ ih => exact ⟨(.normal, _), AEv.range h1 h2 h3 h4, ih⟩
  | rangeR h1 h2 h3 h4 h => exact ⟨(.ret, _), AEv.range h1 h2 h3 h4, h⟩
  | rangeX h1 h2 h3 h4 hp _ ih => exact ⟨(.exit _, _), AEv.range h1 h2 h3 h4, popM_of hp ih⟩
  | seq _ ih =>
    obtain ⟨⟨o, s1⟩, ⟨n, hn⟩, hk⟩ := ih
    cases o with
    | normal =>
      obtain ⟨o2, ⟨m, hm⟩, hk2⟩ := hk
      exact ⟨o2, ⟨max n m, fun N hN => by simp only [exec]; rw [hn N (by omega)]; exact hm N (by omega)⟩, hk2⟩
    | ret => exact ⟨(.ret, s1), ⟨n, fun N hN => by simp only [exec]; rw [hn N hN]⟩, hk⟩
    | exit id => exact ⟨(.exit id, s1), ⟨n, fun N hN => by simp only [exec]; rw [hn N hN]⟩, hk⟩
  | cond hb _ ih =>
    rename_i b _
    obtain ⟨o, ⟨n, hn⟩, hk⟩ := ih
    refine ⟨o, ⟨n, fun N hN => ?_⟩, hk⟩
    simp only [exec, hb]
    cases b <;> simpa using hn N hN
  | block _ ih =>
    rename_i id a k s r _
    obtain ⟨⟨o, s1⟩, ⟨n, hn⟩, hk⟩ := ih
    cases o with
    | normal => exact ⟨(.normal, s1), ⟨n, fun N hN => by simp only [exec]; rw [hn N hN]⟩, hk⟩
    | ret => exact ⟨(.ret, s1), ⟨n, fun N hN => by simp only [exec]; rw [hn N hN]⟩, hk⟩
    | exit j =>
      simp only [Means.popM] at hk
      by_cases e : id = j
      · subst e
        rw [if_pos rfl] at hk
        exact ⟨(.normal, s1), ⟨n, fun N hN => by simp only [exec]; rw [hn N hN]; simp⟩, hk⟩
      · rw [if_neg e] at hk
        exact ⟨(.exit j, s1), ⟨n, fun N hN => by simp only [exec]; rw [hn N hN]; simp [Ne.symm e]⟩, hk⟩
  | region hr _ ih =>
    rename_i s' _ _
    exact ⟨(.normal, s'), ⟨0, fun N _ => by simp only [exec, hr]⟩, ih⟩
  | loop _ ih =>
    obtain ⟨⟨o, s1⟩, ⟨n, hn⟩, hk⟩ := ih
    cases o with
    | normal =>
      obtain ⟨o2, ⟨m, hm⟩, hk2⟩ := hk
      refine ⟨o2, ⟨max n m + 1, fun N hN => ?_⟩, hk2⟩
      obtain ⟨N', rfl⟩ : ∃ N', N = N' + 1 := ⟨N - 1, by omega⟩
      simp only [exec, loopN]
      rw [hn _ (by omega)]
      exact hm _ _ (by omega) (by omega)
    | ret =>
      refine ⟨(.ret, s1), ⟨n + 1, fun N hN => ?_⟩, hk⟩
      obtain ⟨N', rfl⟩ : ∃ N', N = N' + 1 := ⟨N - 1, by omega⟩
      simp only [exec, loopN]
      rw [hn _ (by omega)]
    | exit id =>
      refine ⟨(.exit id, s1), ⟨n + 1, fun N hN => ?_⟩, hk⟩
      obtain ⟨N', rfl⟩ : ∃ N', N = N' + 1 := ⟨N - 1, by omega⟩
      simp only [exec, loopN]
      rw [hn _ (by omega)]
  | again _ ih =>
    obtain ⟨⟨o, s1⟩, ⟨n, hn⟩, hk⟩ := ih
    cases o with
    | normal =>
      obtain ⟨o2, ⟨m, hm⟩, hk2⟩ := hk
      refine ⟨o2, ⟨max n m + 1, fun N M hN hM => ?_⟩, hk2⟩
      obtain ⟨M', rfl⟩ : ∃ M', M = M' + 1 := ⟨M - 1, by omega⟩
      simp only [loopN]
      rw [hn _ (by omega)]
      exact hm _ _ (by omega) (by omega)
    | ret =>
      refine ⟨(.ret, s1), ⟨n + 1, fun N M hN hM => ?_⟩, hk⟩
      obtain ⟨M', rfl⟩ : ∃ M', M = M' + 1 := ⟨M - 1, by omega⟩
      simp only [loopN]
      rw [hn _ (by omega)]
    | exit id =>
      refine ⟨(.exit id, s1), ⟨n + 1, fun N M hN hM => ?_⟩, hk⟩
      obtain ⟨M', rfl⟩ : ∃ M', M = M' + 1 := ⟨M - 1, by omega⟩
      simp only [loopN]
      rw [hn _ (by omega)]
theorem AEnds.runO {c : Code} (he : AEnds E rs base [.code c] s r) : ∃ o s', AEv E base c s (o, s') ∧ rs o s' = some r := by
  obtain ⟨⟨o, s1⟩, hv, hk⟩ := he.means
  refine ⟨o, s1, hv, ?_⟩
  cases o <;> exact hk
theorem ARnd.nil {a b : Code} {ps : List Tmp} : ARnd E base a b ps [] s (.normal, s) := ⟨0, fun _ _ => rfl⟩
theorem ARnd.next {a b : Code} {ps : List Tmp} {xs : List AV} {xss : List (List AV)} {o : Out × AS} (s0 sA s2 : AS) (hs : canon base (E.keep (firstR b)) s = s0)
    (h1 : AEnds E rsO s0.heap.length [.code a] { s0 with tmps := putAll s0.tmps ps xs } (.normal, sA)) (h2 : AEnds E rsO s0.heap.length [.code b] sA (.normal, s2)) (t : ARnd E base a b ps xss { s0 with heap := s2.heap, frz := s2.frz } o) : ARnd E base a b ps (xs :: xss) s o := by
  obtain ⟨o1, q1, ⟨n1, e1⟩, f1⟩ := h1.runO
  obtain ⟨o2, q2, ⟨n2, e2⟩, f2⟩ := h2.runO
  obtain ⟨n3, e3⟩ := t
  simp only [rsO, Option.some.injEq, Prod.mk.injEq] at f1 f2
  obtain ⟨rfl, rfl⟩ := f1
  obtain ⟨rfl, rfl⟩ := f2
  subst hs
  exact ⟨n1 + n2 + n3, fun m hm => by simp only [rounds, e1 m (by omega), e2 m (by omega)]; exact e3 m (by omega)⟩
theorem ARnd.stop {a b : Code} {ps : List Tmp} {xs : List AV} {xss : List (List AV)} {o : Out} (s0 sA s2 : AS) (hs : canon base (E.keep (firstR b)) s = s0)
    (h1 : AEnds E rsO s0.heap.length [.code a] { s0 with tmps := putAll s0.tmps ps xs } (.normal, sA)) (h2 : AEnds E rsO s0.heap.length [.code b] sA (o, s2)) (ho : o ≠ .normal) : ARnd E base a b ps (xs :: xss) s (o, { s0 with heap := s2.heap, frz := s2.frz }) := by
  obtain ⟨o1, q1, ⟨n1, e1⟩, f1⟩ := h1.runO
  obtain ⟨o2, q2, ⟨n2, e2⟩, f2⟩ := h2.runO
  simp only [rsO, Option.some.injEq, Prod.mk.injEq] at f1 f2
  obtain ⟨rfl, rfl⟩ := f1
  obtain ⟨rfl, rfl⟩ := f2
  subst hs
  refine ⟨n1 + n2, fun m hm => ?_⟩
  cases o2 <;> first | exact (ho rfl).elim | simp only [rounds, e1 m (by omega), e2 m (by omega)]
theorem AEnds.run {c : Code} (hx : ∀ id s, rs (.exit id) s = none) (he : AEnds E rs base [.code c] s r) : ∃ N o s', exec E N base c s = some (o, s') ∧ (o = .normal ∨ o = .ret) ∧ rs o s' = some r := by
  obtain ⟨⟨o, s1⟩, ⟨n, hn⟩, hk⟩ := he.means
  refine ⟨n, o, s1, hn n (Nat.le_refl _), ?_⟩
  cases o with
  | normal => exact ⟨.inl rfl, hk⟩
  | ret => exact ⟨.inr rfl, hk⟩
  | exit id => have := hx id s1; rw [show rs (.exit id) s1 = some r from hk] at this; cases this
theorem okR_ends {P : Program} (hE : EnvOk E P) (hm : P.follows .mixedOrders = true) {f : FuncId} {fn : Func} {c : Code} (hf : P.funcs[f]? = some fn) (hc : fn.body = some c) (hfit : Fits P E.ref E.dep fn = true)
    {as : List AV} {h h' : List Blk} {z z' : List Bool} {v : AV} (he : AEnds E (finR P fn.results) h.length [.code c] (startA fn as h z) (v, h', z')) : OkR P f as h z v h' z' := by
  obtain ⟨N, o, s', h1, h2, h3⟩ := he.run (fun _ _ => rfl)
  refine okR_body (N := N) hE hm hf hfit ?_
  unfold body
  rw [hc]; simp only [h1]
  rcases h2 with rfl | rfl <;> (simp only [finR, finR0] at h3; simp only [hE.eP]; exact h3)
theorem okV_ends {P : Program} (hE : EnvOk E P) (hm : P.follows .mixedOrders = true) {f : FuncId} {fn : Func} {c : Code} (hf : P.funcs[f]? = some fn) (hc : fn.body = some c) (hfit : Fits P E.ref E.dep fn = true)
    {as : List AV} {v : AV} (he : AEnds E (finV P fn.results) 0 [.code c] (startA fn as [] []) v) : OkV P f as v := by
  obtain ⟨N, o, s', h1, h2, h3⟩ := he.run (fun _ _ => rfl)
  refine okV_body (N := N) hE hm hf hfit ?_
  unfold bodyV body
  rw [hc]; simp only [List.length_nil, h1]
  replace h3 : finV0 P fn.results s' = some v := by rcases h2 with rfl | rfl <;> exact h3
  unfold finV0 at h3
  split at h3
  · rename_i vs hvs
    rcases h2 with rfl | rfl <;> (simp only [hE.eP, hvs]; split at h3 <;> simp_all)
  · cases h3

/-! As equations. -/
theorem ends_nil : AEnds E rs base [] s r ↔ rs .normal s = some r := ⟨fun h => by cases h; assumption, .nil⟩
theorem ends_ret : AEnds E rs base (.code .ret :: k) s r ↔ rs .ret s = some r := ⟨fun h => by cases h; assumption, .ret⟩
theorem ends_skip : AEnds E rs base (.code .skip :: k) s r ↔ AEnds E rs base k s r := ⟨fun h => by cases h; assumption, .skip⟩
theorem ends_mark {id : Nat} : AEnds E rs base (.mark id :: k) s r ↔ AEnds E rs base k s r := ⟨fun h => by cases h; assumption, .mark⟩
def EndsO {R : Type} (E : Env) (rs : Out → AS → Option R) (base : Nat) (id : Nat) (s : AS) (r : R) : Option (List Todo) → Prop
  | none => rs (.exit id) s = some r
  | some k => AEnds E rs base k s r
theorem ends_exit {id : Nat} : AEnds E rs base (.code (.exit id) :: k) s r ↔ EndsO E rs base id s r (popTo id k) := by
  constructor
  · intro h
    cases h with
    | exit h1 h2 => rw [h1]; exact h2
    | leave h1 h2 => rw [h1]; exact h2
  · intro h
    cases hq : popTo id k with
    | none => rw [hq] at h; exact .leave hq h
    | some k' => rw [hq] at h; exact .exit hq h
theorem ends_seq {a b : Code} : AEnds E rs base (.code (.seq a b) :: k) s r ↔ AEnds E rs base (.code a :: .code b :: k) s r := ⟨fun h => by cases h; assumption, .seq⟩
def EndsB {R : Type} (E : Env) (rs : Out → AS → Option R) (base : Nat) (x y : Code) (k : List Todo) (s : AS) (r : R) : AV → Prop
  | .bool b => if b then AEnds E rs base (.code x :: k) s r else AEnds E rs base (.code y :: k) s r
  | _ => False
theorem ends_cond {c : Operand} {x y : Code} : AEnds E rs base (.code (.cond c x y) :: k) s r ↔ EndsB E rs base x y k s r (lookA s.tmps c) := by
  constructor
  · intro h; cases h; rename_i b h1 h2; rw [h1]; cases b <;> simpa [EndsB] using h2
  · intro h
    cases hq : lookA s.tmps c <;> rw [hq] at h <;> first | exact h.elim | skip
    rename_i b
    refine .cond hq ?_
    cases b <;> simpa [EndsB] using h
theorem ends_block {id : Nat} {a : Code} : AEnds E rs base (.code (.block id a) :: k) s r ↔ AEnds E rs base (.code a :: .mark id :: k) s r := ⟨fun h => by cases h; assumption, .block⟩
def EndsS {R : Type} (E : Env) (rs : Out → AS → Option R) (base : Nat) (k : List Todo) (r : R) : Option AS → Prop
  | none => False
  | some s => AEnds E rs base k s r
theorem ends_region {id : Nat} {ops : Array Oper} {d : Bool} : AEnds E rs base (.code (.region id ops d) :: k) s r ↔ EndsS E rs base k r (runRegion E id ops.toList d s) :=
  ⟨fun h => by cases h; rename_i h1 h2; rw [h1]; exact h2, fun h => by cases hq : runRegion E id ops.toList d s with | none => rw [hq] at h; exact h.elim | some s' => rw [hq] at h; exact .region hq h⟩
theorem AEnds.loopS {a : Code} {s' : AS} (h : AEnds E rs base (.code a :: .again a :: k) s' r) (hs : canon base (E.keep (firstR a)) s = s') : AEnds E rs base (.code (.loop a) :: k) s r := .loop (hs ▸ h)
theorem AEnds.againS {a : Code} {s' : AS} (h : AEnds E rs base (.code a :: .again a :: k) s' r) (hs : canon base (E.keep (firstR a)) s = s') : AEnds E rs base (.again a :: k) s r := .again (hs ▸ h)
/-- Slots: all unknown but some. -/
def fr (n : Nat) (l : List (Nat × AV)) : List AV := l.foldl (fun t p => t.set p.1 p.2) (List.replicate n .any)
/-- A row of numbers. -/
def rowI (k : IntKind) (l : List Int) : AV := .row l.length (l.map (.int k))
end
/- The words of a run, for simp. -/
section
variable {R : Type} (E : Env) (rs : Out → AS → Option R) (base : Nat) (k : List Todo) (r : R)
/-- A region's rest. -/
def RL (ops : List Oper) (slot : Nat) (l : List Oper) (s : AS) : Prop := EndsS E rs base k r (runL E ops slot l s)
def RE (ops : List Oper) (slot : Nat) (o : Oper) (l : List Oper) (s : AS) : Option Eff → Prop
  | none => False
  | some e => RL E rs base k r ops (if isAlloc E.ref o.op then slot + 1 else slot) l { tmps := putT s.tmps o.dst e.v, heap := setAll s.heap e.sets, frz := frzAll s.frz e.frs }
def RW (ops : List Oper) (slot : Nat) (o : Oper) (l : List Oper) (s : AS) : Option Bool → Prop
  | none => False
  | some false => RL E rs base k r ops (if isAlloc E.ref o.op then slot + 1 else slot) l { s with tmps := putT s.tmps o.dst .undef }
  | some true => RE E rs base k r ops slot o l s (eff E (lookA s.tmps) (seen (fun _ => true) s.heap) (frozenA (fun _ => true) s.frz) slot o.op)
def RD (ops : List Oper) (n0 i slot : Nat) (log : List (Nat × List Nat)) (d : List (List Nat × List Nat × Bool)) (l : List Oper) (s : AS) : Prop := EndsS E rs base k r (runD E ops n0 i slot log d l s)
def RDE (ops : List Oper) (n0 i slot : Nat) (log : List (Nat × List Nat)) (d : List (List Nat × List Nat × Bool)) (o : Oper) (l : List Oper) (s : AS) : Option Eff → Prop
  | none => False
  | some e => RD E rs base k r ops n0 (i + 1) (if isAlloc E.ref o.op then slot + 1 else slot) (if (d.headD ([], [], false)).2.2 then (i, footA (lookA s.tmps) o.op) :: log else log) d.tail l { tmps := putT s.tmps o.dst e.v, heap := setAll s.heap e.sets, frz := frzAll s.frz e.frs }
def RDW (ops : List Oper) (n0 i slot : Nat) (log : List (Nat × List Nat)) (d : List (List Nat × List Nat × Bool)) (o : Oper) (l : List Oper) (s : AS) : Option Bool → Prop
  | none => False
  | some false => RD E rs base k r ops n0 (i + 1) (if isAlloc E.ref o.op then slot + 1 else slot) (if (d.headD ([], [], false)).2.2 then (i, footA (lookA s.tmps) o.op) :: log else log) d.tail l { s with tmps := putT s.tmps o.dst .undef }
  | some true => RDE E rs base k r ops n0 i slot log d o l s (eff E (lookA s.tmps) (seen (visD n0 (d.headD ([], [], false)).1) s.heap) (frozenA (visD n0 (d.headD ([], [], false)).1) s.frz) slot o.op)
def RDH (ops : List Oper) (n0 i slot : Nat) (log : List (Nat × List Nat)) (d : List (List Nat × List Nat × Bool)) (o : Oper) (l : List Oper) (s : AS) : Bool → Prop
  | true => RDW E rs base k r ops n0 i slot log d o l s (wantA ops s.tmps o)
  | false => False
variable {E rs base k r} {ops l : List Oper} {slot n0 i : Nat} {o : Oper} {s : AS} {log : List (Nat × List Nat)} {d : List (List Nat × List Nat × Bool)} {e : Eff}
theorem rl_nil : RL E rs base k r ops slot [] s ↔ AEnds E rs base k s r := Iff.rfl
theorem rl_cons : RL E rs base k r ops slot (o :: l) s ↔ RW E rs base k r ops slot o l s (wantA ops s.tmps o) := by
  unfold RL; simp only [runL, stepA]
  cases wantA ops s.tmps o with
  | none => rfl
  | some b => cases b with
    | false => rfl
    | true =>
      simp only [RW]
      cases eff E (lookA s.tmps) (seen (fun _ => true) s.heap) (frozenA (fun _ => true) s.frz) slot o.op <;> rfl
theorem rw_t : RW E rs base k r ops slot o l s (some true) ↔ RE E rs base k r ops slot o l s (eff E (lookA s.tmps) (seen (fun _ => true) s.heap) (frozenA (fun _ => true) s.frz) slot o.op) := Iff.rfl
theorem rw_f : RW E rs base k r ops slot o l s (some false) ↔ RL E rs base k r ops (if isAlloc E.ref o.op then slot + 1 else slot) l { s with tmps := putT s.tmps o.dst .undef } := Iff.rfl
theorem re_some : RE E rs base k r ops slot o l s (some e) ↔ RL E rs base k r ops (if isAlloc E.ref o.op then slot + 1 else slot) l { tmps := putT s.tmps o.dst e.v, heap := setAll s.heap e.sets, frz := frzAll s.frz e.frs } := Iff.rfl
theorem rd_nil : RD E rs base k r ops n0 i slot log d [] s ↔ AEnds E rs base k s r := Iff.rfl
theorem rd_cons : RD E rs base k r ops n0 i slot log d (o :: l) s ↔ RDH E rs base k r ops n0 i slot log d o l s (heldOk log (d.headD ([], [], false)).2.1 (footA (lookA s.tmps) o.op)) := by
  unfold RD; simp only [runD]
  cases heldOk log (d.headD ([], [], false)).2.1 (footA (lookA s.tmps) o.op) with
  | false => simp [RDH, EndsS]
  | true =>
    simp only [RDH, if_true, stepA]
    cases wantA ops s.tmps o with
    | none => rfl
    | some b => cases b with
      | false => rfl
      | true =>
        simp only [RDW]
        cases eff E (lookA s.tmps) (seen (visD n0 (d.headD ([], [], false)).1) s.heap) (frozenA (visD n0 (d.headD ([], [], false)).1) s.frz) slot o.op <;> rfl
theorem rdh_t : RDH E rs base k r ops n0 i slot log d o l s true ↔ RDW E rs base k r ops n0 i slot log d o l s (wantA ops s.tmps o) := Iff.rfl
theorem rdw_t : RDW E rs base k r ops n0 i slot log d o l s (some true) ↔ RDE E rs base k r ops n0 i slot log d o l s (eff E (lookA s.tmps) (seen (visD n0 (d.headD ([], [], false)).1) s.heap) (frozenA (visD n0 (d.headD ([], [], false)).1) s.frz) slot o.op) := Iff.rfl
theorem rdw_f : RDW E rs base k r ops n0 i slot log d o l s (some false) ↔ RD E rs base k r ops n0 (i + 1) (if isAlloc E.ref o.op then slot + 1 else slot) (if (d.headD ([], [], false)).2.2 then (i, footA (lookA s.tmps) o.op) :: log else log) d.tail l { s with tmps := putT s.tmps o.dst .undef } := Iff.rfl
theorem rde_some : RDE E rs base k r ops n0 i slot log d o l s (some e) ↔ RD E rs base k r ops n0 (i + 1) (if isAlloc E.ref o.op then slot + 1 else slot) (if (d.headD ([], [], false)).2.2 then (i, footA (lookA s.tmps) o.op) :: log else log) d.tail l { tmps := putT s.tmps o.dst e.v, heap := setAll s.heap e.sets, frz := frzAll s.frz e.frs } := Iff.rfl
theorem ends_reg_f {id : Nat} {a : Array Oper} : AEnds E rs base (.code (.region id a false) :: k) s r ↔ RL E rs base k r a.toList s.heap.length a.toList (widen (nAlloc E.ref a.toList) s) := ends_region
theorem ends_reg_t {id : Nat} {a : Array Oper} : AEnds E rs base (.code (.region id a true) :: k) s r ↔ RD E rs base k r a.toList s.heap.length 0 s.heap.length [] (E.dep id) a.toList (widen (nAlloc E.ref a.toList) s) := ends_region
theorem eb_t {x y : Code} : EndsB E rs base x y k s r (.bool true) ↔ AEnds E rs base (.code x :: k) s r := by simp [EndsB]
theorem eb_f {x y : Code} : EndsB E rs base x y k s r (.bool false) ↔ AEnds E rs base (.code y :: k) s r := by simp [EndsB]
theorem eo_some {id : Nat} {t : List Todo} : EndsO E rs base id s r (some t) ↔ AEnds E rs base t s r := Iff.rfl
theorem eo_none {id : Nat} : EndsO E rs base id s r none ↔ rs (.exit id) s = some r := Iff.rfl
end
attribute [simp] ends_nil ends_ret ends_skip ends_mark ends_exit ends_seq ends_cond ends_block ends_reg_f ends_reg_t eb_t eb_f eo_some eo_none popTo
attribute [simp] rl_nil rl_cons rw_t rw_f re_some rd_nil rd_cons rdh_t rdw_t rdw_f rde_some
attribute [simp] nAlloc isAlloc wantA eff lookA putT ofVal ofCell setAll frzAll pur reifyA reify reify1 capL cap1 plain1 scal1 putAll reifyR reifyL refs refs1 refs2 binA unA strOp cellsL cellsR AV.cells fillA splice finR finV finR0 finV0 rsO resA Blk.cells partA partK oneOr widen seen frozenA visD heldOk footA disj bound srcA appA
section
variable (k : IntKind) (a b : Int)
theorem ar_add : arith .add k a b = some (.int k (k.wrap (a + b))) := rfl
theorem ar_sub : arith .sub k a b = some (.int k (k.wrap (a - b))) := rfl
theorem ar_mul : arith .mul k a b = some (.int k (k.wrap (a * b))) := rfl
theorem ar_quo : arith .quo k a b = if b = 0 then none else some (.int k (k.wrap (a.tdiv b))) := rfl
theorem ar_rem : arith .rem k a b = if b = 0 then none else some (.int k (a.tmod b)) := rfl
theorem ar_or : arith .or k a b = some (.int k (Go.bits .or k a b)) := rfl
theorem ar_and : arith .and k a b = some (.int k (Go.bits .and k a b)) := rfl
theorem ar_xor : arith .xor k a b = some (.int k (Go.bits .xor k a b)) := rfl
theorem ar_eql : arith .eql k a b = some (.bool (a == b)) := rfl
theorem ar_neq : arith .neq k a b = some (.bool (a != b)) := rfl
theorem ar_lss : arith .lss k a b = some (.bool (a < b)) := rfl
theorem ar_leq : arith .leq k a b = some (.bool (a ≤ b)) := rfl
theorem ar_gtr : arith .gtr k a b = some (.bool (a > b)) := rfl
theorem ar_geq : arith .geq k a b = some (.bool (a ≥ b)) := rfl
end
attribute [simp] ar_add ar_sub ar_mul ar_quo ar_rem ar_or ar_and ar_xor ar_eql ar_neq ar_lss ar_leq ar_gtr ar_geq
attribute [simp] keyS sameS sameSL sameS1 eqK findA
attribute [simp] canon upto keepL reach addNew idsV ids2 ids1 idsB pos? ren ren1 ren2 renB firstR startA nodupB liveB isF refCall writeBack frzBack backOf isBytes
/- What a computation that grows comes to; numbers' rows. -/
noncomputable def pick {α : Type} (Q : Nat → Option α) : Option α := by
  classical exact if h : ∃ r k, Q k = some r then some (Classical.choose h) else none
theorem of_pick {α : Type} {Q : Nat → Option α} {r : α} (h : pick Q = some r) : ∃ k, Q k = some r := by
  unfold pick at h
  split at h
  · rename_i h1; simp only [Option.some.injEq] at h; subst h; exact Classical.choose_spec h1
  · cases h
theorem pick_of {α : Type} {Q : Nat → Option α} (mono : ∀ k r, Q k = some r → Q (k + 1) = some r) {k : Nat} {r : α} (h : Q k = some r) : pick Q = some r := by
  have up : ∀ n k r, Q k = some r → Q (k + n) = some r := by
    intro n; induction n with
    | zero => exact fun _ _ h => h
    | succ n ih => intro k r h; exact mono _ _ (ih k r h)
  have hx : ∃ r k, Q k = some r := ⟨r, k, h⟩
  unfold pick; rw [dif_pos hx]
  obtain ⟨j, hj⟩ := Classical.choose_spec hx
  have e1 := up j k r h
  have e2 := up k j _ hj
  rw [Nat.add_comm j k, e1] at e2; exact e2.symm
def unC (k : IntKind) : List AV → Option (List Int)
  | [] => some []
  | .int k' n :: r => if k' = k then (unC k r).map (n :: ·) else none
  | _ :: _ => none
def unI (k : IntKind) : AV → Option (List Int)
  | .row n cs => if n = cs.length then unC k cs else none
  | _ => none
theorem unC_map (k : IntKind) (l : List Int) : unC k (l.map (.int k)) = some l := by
  induction l with
  | nil => rfl
  | cons a l ih => simp [unC, ih]
theorem unC_eq {k : IntKind} : ∀ {cs : List AV} {l : List Int}, unC k cs = some l → cs = l.map (.int k)
  | [], l, h => by simp [unC] at h; subst h; rfl
  | c :: cs, l, h => by
    cases c <;> simp only [unC] at h <;> try cases h
    split at h
    · rename_i e; subst e
      cases hq : unC _ cs with
      | none => rw [hq] at h; cases h
      | some l' => rw [hq] at h; simp only [Option.map_some, Option.some.injEq] at h; subst h; simp [unC_eq hq]
    · cases h
theorem unI_eq {k : IntKind} {x : AV} {l : List Int} (h : unI k x = some l) : x = rowI k l := by
  cases x <;> simp only [unI] at h <;> try cases h
  split at h
  · rename_i e; have := unC_eq h; subst this; subst e; simp [rowI]
  · cases h
theorem unC_app (k : IntKind) (l : List Int) (cs : List AV) : unC k (l.map (.int k) ++ cs) = (unC k cs).map (l ++ ·) := by
  induction l with
  | nil => simp
  | cons a l ih =>
    simp only [List.map_cons, List.cons_append, unC, ih, if_true]
    cases unC k cs <;> simp
theorem beqT {a b : Int} (h : a = b) : (a == b) = true := by simp [h]
theorem beqF {a b : Int} (h : ¬ a = b) : (a == b) = false := by simp [h]
theorem bneT {a b : Int} (h : ¬ a = b) : (a != b) = true := by simp [h]
theorem bneF {a b : Int} (h : a = b) : (a != b) = false := by simp [h]
theorem ite_some {α : Type} {c : Prop} [Decidable c] {x y : Option α} {r : α} (h : (if c then x else y) = some r) : (c ∧ x = some r) ∨ (¬ c ∧ y = some r) := by
  split at h
  · exact .inl ⟨‹_›, h⟩
  · exact .inr ⟨‹_›, h⟩
theorem fdivP {a b : Int} (h : 0 ≤ b) : a.fdiv b = a / b := Int.fdiv_eq_ediv_of_nonneg a h
theorem take_map {α β : Type} (f : α → β) (l : List α) : (l.map f).take l.length = l.map f := by rw [List.take_of_length_le]; simp
theorem unI_row (k : IntKind) (l : List Int) (n : Nat) (h : n = l.length) : unI k (.row n (l.map (.int k))) = some l := by
  simp [unI, h, unC_map]
theorem ltT {a b : Int} (h : a < b) : (a < b) = True := by simp [h]
theorem ltF {a b : Int} (h : ¬ a < b) : (a < b) = False := by simp [h]
theorem leT {a b : Int} (h : a ≤ b) : (a ≤ b) = True := by simp [h]
theorem leF {a b : Int} (h : ¬ a ≤ b) : (a ≤ b) = False := by simp [h]
theorem nltT {a b : Nat} (h : a < b) : (a < b) = True := by simp [h]
theorem nltF {a b : Nat} (h : ¬ a < b) : (a < b) = False := by simp [h]
theorem nleT {a b : Nat} (h : a ≤ b) : (a ≤ b) = True := by simp [h]
theorem nleF {a b : Nat} (h : ¬ a ≤ b) : (a ≤ b) = False := by simp [h]
theorem eqF {a b : Int} (h : ¬ a = b) : (a = b) = False := by simp [h]
theorem eqT {a b : Int} (h : a = b) : (a = b) = True := by simp [h]
theorem app4 {n : Nat} (h : n ≤ 35184372088832) : (n * 4 ≤ maxApp) = True := by simp [maxApp]; omega
theorem app8 {n : Nat} (h : n ≤ 17592186044416) : (n * 8 ≤ maxApp) = True := by simp [maxApp]; omega
theorem mk4 {n : Nat} (h : n ≤ 70368744177664) : (n * 4 ≤ maxMem) = True := by simp [maxMem]; omega
theorem mk8 {n : Nat} (h : n ≤ 35184372088832) : (n * 8 ≤ maxMem) = True := by simp [maxMem]; omega
theorem app1 {n : Nat} (h : n ≤ 140737488355328) : (n ≤ maxApp) = True := by simp [maxApp]; omega
theorem maxS {n : Nat} (h : n ≤ 140737488355328) : (n ≤ maxSize) = True := by simp [maxSize]; omega
/-- What is left to do at a loop's start. -/
def seek (id : Nat) : Code → List Todo → Option (List Todo)
  | .seq a b, k => match seek id a (.code b :: k) with | some t => some t | none => seek id b k
  | .block j a, k => seek id a (.mark j :: k)
  | .cond _ x y, k => match seek id x k with | some t => some t | none => seek id y k
  | .loop a, k => if firstR a = id then some (.code a :: .again a :: k) else seek id a (.again a :: k)
  | _, _ => none
def atLoop (fn : Func) (id : Nat) : List Todo := match fn.body with | some c => (seek id c []).getD [] | none => []
/-- What is nil is a row of none. -/
def wk1 : AV → AV
  | .nil => .row 0 []
  | v => v
def wk2 : AV → AV
  | .agg cs => .agg (cs.map wk1)
  | v => wk1 v
def wk : AV → AV
  | .tup vs => .tup (vs.map wk2)
  | v => wk2 v
/- A nil slice is a row of none. -/
section
variable {ρ : Nat → Loc} {S : Nat → Prop} {w : World}
theorem V1.wk {x : AV} {v : Value} (h : V1 ρ S w x v) : V1 ρ S w (wk1 x) v := by
  cases x <;> try exact h
  simp only [V1, P1] at h
  subst h
  simp only [wk1, V1, P1]
  exact ⟨none, 0, rfl, Nat.le_refl _, .inl (by simp)⟩
theorem CR.map {R R' : AV → Value → Prop} {f : AV → AV} (hf : ∀ c v, R c v → R' (f c) v) {cs : List AV} {vs : Array Value} (h : CR R cs vs) : CR R' (cs.map f) vs := by
  refine ⟨by simpa using h.1, fun j c hj => ?_⟩
  rw [List.getElem?_map] at hj
  cases hq : cs[j]? with
  | none => rw [hq] at hj; cases hj
  | some c0 =>
    rw [hq] at hj; simp only [Option.map_some, Option.some.injEq] at hj; subst hj
    obtain ⟨v, hv, hr⟩ := h.2 j c0 hq
    exact ⟨v, hv, hf _ _ hr⟩
theorem V2.wk {x : AV} {v : Value} (h : V2 ρ S w x v) : V2 ρ S w (wk2 x) v := by
  cases x <;> try exact h
  · exact V1.wk (ρ := ρ) (x := .nil) h
  · rename_i cs
    obtain ⟨vs, hv, hc⟩ := h
    exact ⟨vs, hv, hc.map fun _ _ h => V1.wk h⟩
theorem V3.wk {x : AV} {v : Value} (h : V3 ρ S w x v) : V3 ρ S w (wk x) v := by
  cases x <;> try exact h
  · exact V2.wk (ρ := ρ) (x := .nil) h
  · exact V2.wk (ρ := ρ) (x := .agg _) h
  · rename_i cs
    obtain ⟨vs, hv, hc⟩ := h
    exact ⟨vs, hv, hc.map fun _ _ h => V2.wk h⟩
end
section
variable {P : Program} {f : FuncId} {xs : List AV} {r : AV}
theorem OkV.wkA (h : OkV P f (xs.map wk) r) : OkV P f xs r := by
  refine ⟨h.1, fun S w args hS ha => h.2 S w args hS ⟨by simpa using ha.1, fun j c hj => ?_⟩⟩
  rw [List.getElem?_map] at hj
  cases hq : xs[j]? with
  | none => rw [hq] at hj; cases hj
  | some c0 =>
    rw [hq] at hj; simp only [Option.map_some, Option.some.injEq] at hj; subst hj
    obtain ⟨v, hv, hr⟩ := ha.2 j c0 hq
    refine ⟨v, hv, ?_⟩
    cases c0 <;> first | exact V2.wk hr | exact hr | (simp only [V2, V1, P1] at hr)
theorem OkX.wkA (h : OkX P f (xs.map wk) r) : OkX P f xs r := by
  refine ⟨h.1, fun S w args ha => h.2 S w args ⟨by simpa using ha.1, fun j c hj => ?_⟩⟩
  rw [List.getElem?_map] at hj
  cases hq : xs[j]? with
  | none => rw [hq] at hj; cases hj
  | some c0 =>
    rw [hq] at hj; simp only [Option.map_some, Option.some.injEq] at hj; subst hj
    obtain ⟨v, hv, hr⟩ := ha.2 j c0 hq
    refine ⟨v, hv, ?_⟩
    cases c0 <;> first | exact V2.wk hr | exact hr | (simp only [V2, V1, P1] at hr)
/-- Of either kind. -/
def OkF (P : Program) (f : FuncId) (as : List AV) (r : AV) : Prop := OkV P f as r ∨ OkX P f as r
theorem OkF.wkA (h : OkF P f (xs.map wk) r) : OkF P f xs r := h.imp OkV.wkA OkX.wkA
theorem OkV.wkR (h : OkV P f xs r) : OkV P f xs (wk r) :=
  ⟨h.1, fun S w args hS ha => (h.2 S w args hS ha).mono fun _ _ ⟨v, S', he, hv, hx⟩ => ⟨v, S', he, hv.wk, hx⟩⟩
/-- A function's result by value, nil as a row of none. -/
def finW (P : Program) (rs : Array ResultVar) (o : Out) (s : AS) : Option AV := (finV P rs o s).map wk
theorem okW_ends {E : Env} (hE : EnvOk E P) (hm : P.follows .mixedOrders = true) {fn : Func} {c : Code} (hf : P.funcs[f]? = some fn) (hc : fn.body = some c) (hfit : Fits P E.ref E.dep fn = true)
    (he : AEnds E (finW P fn.results) 0 [.code c] (startA fn xs [] []) r) : OkV P f xs r := by
  obtain ⟨N, o, s', h1, h2, h3⟩ := he.run (fun _ _ => rfl)
  obtain ⟨v, h4, rfl⟩ := Option.map_eq_some_iff.1 h3
  refine OkV.wkR (okV_body (N := N) hE hm hf hfit ?_)
  unfold bodyV body
  rw [hc]; simp only [List.length_nil, h1]
  replace h4 : finV0 P fn.results s' = some v := by rcases h2 with rfl | rfl <;> exact h4
  unfold finV0 at h4
  split at h4
  · rename_i vs hvs
    rcases h2 with rfl | rfl <;> (simp only [hE.eP, hvs]; split at h4 <;> simp_all)
  · cases h4
/-- What gives back blocks, told by value. -/
theorem OkR.val {h' : List Blk} {z' : List Bool} {v : AV} {fs : List Nat} (h : OkR P f xs [] [] v h' z') (hr : reifyR (h'[·]?) v = some (r, fs)) : OkV P f xs r := by
  refine ⟨h.1, fun S w args hS ha => ?_⟩
  have H : Heap (fun b => b < w.heap.size) none' S [] [] w := ⟨fun id => by simp [BR, none'], fun i j b n m h => by simp [none'] at h, fun id b n h => by simp [none'] at h, fun id b n h => by simp [none'] at h, rfl, hS, fun _ h => h⟩
  refine (h.2 (fun b => b < w.heap.size) none' S w args H ⟨ha.1, fun j c hj => let ⟨v, a, b⟩ := ha.2 j c hj; ⟨v, a, b.v3⟩⟩).mono fun e w' ⟨v, ρ', S', he, hv, H', X⟩ => ⟨v, Sf S' ρ' fs, he, reifyR_sound P H' hr hv, ?_⟩
  refine ⟨X.os, X.tape, X.output, X.size, X.kept, fun b hb => .inl (X.ss b hb), fun b hb => ?_, fun b hb => ?_⟩
  · rcases hb with hb | ⟨i, _, n, hn⟩
    · exact (X.new b hb).imp id (fun h => Nat.le_of_not_lt h)
    · exact .inr (Nat.le_of_not_lt (H'.ok _ _ _ hn))
  · rcases hb with hb | ⟨i, _, n, hn⟩
    · exact H'.sb b hb
    · exact (H'.lt hn).1
end
attribute [simp] finW
end Go.Proofs.Ytpbaloceljfaoaa.Ab
