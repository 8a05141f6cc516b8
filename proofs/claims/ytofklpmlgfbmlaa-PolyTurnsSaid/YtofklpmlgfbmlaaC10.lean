/- Walks by the abstract run: polygons; the plain law of polygons. -/
import Derived.Test.YtofklpmlgfbmlaaC8
import Derived.Test.YtofklpmlgfbmlaaC9
set_option linter.unusedVariables false
set_option linter.unusedSimpArgs false
namespace Go.Proofs.Ytofklpmlgfbmlaa.ZRat
open Go.RowKit Go.Proofs.Ytofklpmlgfbmlaa.Wd
open Go Go.Proofs.Ytofklpmlgfbmlaa.Ab Go.Proofs Go.Proofs.Ytofklpmlgfbmlaa.Num Go.Proofs.Ytofklpmlgfbmlaa.ZRatP
set_option linter.unusedSimpArgs false
set_option linter.unusedVariables false
set_option maxHeartbeats 8000000
set_option maxRecDepth 100000
/-- What an iterator yields. -/
def seqS : List (FuncId × (List AV → Option (List (List AV)))) → FuncId → List AV → Option (List (List AV))
  | [], _, _ => none
  | (g, s) :: L, f, xs => if g = f then s xs else seqS L f xs
noncomputable def mkQ (L : List (FuncId × (List AV → Option AV))) (kt : List (Nat × List Nat)) (dt : List (Nat × List (List Nat × List Nat × Bool))) (Q : List (FuncId × (List AV → Option (List (List AV))))) : Env := ⟨Try.prog, fun _ => false, fun f xs => callS L f (xs.map wk), fun _ _ _ _ => none, keepT kt, depT dt, seqS Q⟩
section
variable {L : List (FuncId × (List AV → Option AV))} {kt : List (Nat × List Nat)} {dt : List (Nat × List (List Nat × List Nat × Bool))} {Q : List (FuncId × (List AV → Option (List (List AV))))} {f : FuncId} {xs : List AV} {i : Nat}
theorem mkQ_P : (mkQ L kt dt Q).P = Try.prog := rfl
theorem mkQ_ref : (mkQ L kt dt Q).ref f = false := rfl
theorem mkQ_call : (mkQ L kt dt Q).call f xs = callS L f (xs.map wk) := rfl
theorem mkQ_keep : (mkQ L kt dt Q).keep i = keepT kt i := rfl
theorem mkQ_dep : (mkQ L kt dt Q).dep i = depT dt i := rfl
theorem mkQ_seq : (mkQ L kt dt Q).seq f xs = seqS Q f xs := rfl
end
def GoodQ (p : FuncId × (List AV → Option (List (List AV)))) : Prop := ∀ cs xss, p.2 cs = some xss → SeqOk Try.prog p.1 cs xss
theorem seqS_ok {L : List (FuncId × (List AV → Option (List (List AV))))} (h : ∀ p ∈ L, GoodQ p) {f : FuncId} {xs : List AV} {r : List (List AV)} (hc : seqS L f xs = some r) : SeqOk Try.prog f xs r := by
  induction L with
  | nil => simp [seqS] at hc
  | cons a L ih =>
    obtain ⟨g, s⟩ := a
    simp only [seqS] at hc
    split at hc
    · rename_i e; subst e; exact h (g, s) (by simp) _ _ hc
    · exact ih (fun p hp => h p (by simp [hp])) hc
theorem mkQ_ok {L : List (FuncId × (List AV → Option AV))} {kt : List (Nat × List Nat)} {dt : List (Nat × List (List Nat × List Nat × Bool))} {Q : List (FuncId × (List AV → Option (List (List AV))))} (h : ∀ p ∈ L, GoodS p) (hq : ∀ p ∈ Q, GoodQ p) : EnvOk (mkQ L kt dt Q) Try.prog :=
  ⟨rfl, fun f xs r hc => OkF.wkA (callS_ok h hc), fun f xs h z v h' z' hr => by simp [mkQ] at hr, fun g cs xss h => seqS_ok hq h⟩
theorem qs_one {a : FuncId × (List AV → Option (List (List AV)))} (h : GoodQ a) : ∀ f ∈ [a], GoodQ f := fun f hf => by simp at hf; subst hf; exact h
attribute [simp] mkQ_P mkQ_ref mkQ_call mkQ_keep mkQ_dep mkQ_seq seqS
/-- Cells, told by what lies in them. -/
theorem exact_row {S : Nat → Prop} {w : World} : ∀ {cs : List AV} {b o : Nat}, PC S w cs b o → ∃ vs : List Value, vs.length = cs.length ∧ PC S w (vs.map .cst) b o ∧ ∀ (j : Nat) (c : AV), cs[j]? = some c → ∃ v, vs[j]? = some v ∧ P1 S w c v
  | [], _, _, _ => ⟨[], rfl, by simp only [List.map_nil, PC], fun j c hj => by simp at hj⟩
  | c :: r, b, o, h => by
    simp only [PC] at h
    obtain ⟨⟨v, hv, hc⟩, hr⟩ := h
    obtain ⟨vs, e1, e2, e3⟩ := exact_row hr
    refine ⟨v :: vs, by simp [e1], ?_, fun j d hj => ?_⟩
    · simp only [List.map_cons, PC, P1]; exact ⟨⟨v, hv, rfl, hc.one⟩, e2⟩
    · cases j with
      | zero => simp at hj; subst hj; exact ⟨v, rfl, hc⟩
      | succ j => simpa using e3 j d (by simpa using hj)
/-- Each of some cells and the one that follows it. -/
def pairsA (sz n : Nat) (cs : List AV) : List (List AV) := (List.range n).map fun i => [.agg ((cs.drop (i * sz)).take sz), .agg ((cs.drop ((i + 1) % n * sz)).take sz)]
def Ssides : List AV → Option (List (List AV))
  | [.rptr [.row n cs] 0] => if cs.length = n * 6 ∧ n < 1000000 then some (pairsA 6 n cs) else none
  | _ => none
noncomputable def E_it : Env := mkS [] [] []
theorem cst_agg {S : Nat → Prop} {w : World} {ρ : Nat → Ab.Loc} {vs : List Value} {u : Value} (h : V3 ρ S w (.agg (vs.map .cst)) u) : u = .agg vs.toArray := by
  obtain ⟨us, rfl, h1, h2⟩ := agg_of h
  congr 1
  apply Array.ext
  · simpa using h1.symm
  · intro i hi hj
    simp at hj
    obtain ⟨v, hv, hc⟩ := h2 i (.cst vs[i]) (by simp [hj])
    simp only [V1, P1] at hc
    have : us[i]? = some us[i] := Array.getElem?_eq_getElem hi
    rw [this] at hv
    simp only [Option.some.injEq] at hv
    rw [hv, hc.1]; simp
theorem it_list {L : Array Bool} {m : Nat} (h : L.size = m) (h1 : ∀ i, i < 13 → L.getD i true = true) (h2 : ∀ i, 13 ≤ i → i < m → L.getD i true = false) (hm : m = 15 := by rfl) : L = Array.ofFn (fun i : Fin 15 => decide (i.1 < 13)) := by
  subst hm
  apply Array.ext
  · simpa using h
  · intro i hi hj
    simp only [Array.getElem_ofFn]
    by_cases hc : i < 13
    · have := h1 i hc
      rw [Array.getD_eq_getD_getElem?, Array.getElem?_eq_getElem hi] at this
      rw [decide_eq_true hc]; simpa using this
    · have := h2 i (by omega) (by omega)
      rw [Array.getD_eq_getD_getElem?, Array.getElem?_eq_getElem hi] at this
      rw [decide_eq_false hc]; simpa using this
theorem it_step {F : Fence} {P : Program} {ops : Array Oper} {Q : Exit → Act → World → Prop} {fuel i : Nat} {listed : Array Bool} {a : Act} {w : World} {rs : List Nat} (hr : Region.ready .any ops listed = rs) (hi : rs = [i]) (h : wpOpIn F 0 P ops Q i (wpAnyIn F 0 P .any ops Q fuel (listed.setIfInBounds i true)) a w) : wpAnyIn F 0 P .any ops Q (fuel + 1) listed a w := by
  subst hi
  refine ⟨(fun q => by rw [hr] at q; cases q), fun k hk => ?_⟩
  rw [hr] at hk
  simp only [List.mem_singleton] at hk
  subst hk; exact h
theorem run_callY {P : Program} {l : Nat} {ev : Operand → Value} {c : Call} {x : Operand} (hc : c.callee = .value x) (hx : ev x = .func (.yield l) #[] #[]) (ty : TypeId) (w : World) :
    (do let d ← resolve ev c ty; invoke d.target d.args : Sem Next).run P w = (Instr.yield l (c.args.toList.map ev).toArray).run P w := by
  have hm : c.args.map ev = (c.args.toList.map ev).toArray := by apply Array.ext'; simp
  simp only [resolve, hc, hx, Deferred.ofValue, Sem.run_bind, Sem.run_pure, Result.andThen_ok, invoke, Array.empty_append, Array.append_empty, hm]
theorem it_all {ops : List Oper} {i : Nat} (h : ((List.range 13).all fun j => ((closureL [] ops).getD i []).contains j) = true) : ∀ j, j < 13 → j ∈ (closureL [] ops).getD i [] := fun j hj => List.contains_iff_mem.1 (List.all_eq_true.1 h j (List.mem_range.2 hj))
theorem it_dead {E : Env} {ops : List Oper} {n0 : Nat} {l : List Nat} {s : AS} (h : (ops.all fun o => !isAlloc E.ref o.op) = true) : DeadI E ops n0 l s := fun i _ o ho ha => by
  have := List.all_eq_true.1 h o (List.mem_of_getElem? ho)
  rw [ha] at this; cases this
def itRd (a : Act) : Int := match (a.tmps[6]? : Option Value) with | some (Value.int _ z) => z | _ => 0
theorem it_arith {n k : Nat} (hkn : k < n) (hn : n < 1000000) : (k : Int) < n ∧ wrap64 ((k : Int) + 1) = (k : Int) + 1 ∧ ((k : Int) + 1).tmod (n : Int) = (((k + 1) % n : Nat) : Int) ∧ (k + 1) % n < n ∧ ¬ (n : Int) = 0 := by
  refine ⟨by omega, ?_, ?_, Nat.mod_lt _ (by omega), by omega⟩
  · unfold wrap64; omega
  · rw [Int.tmod_eq_emod_of_nonneg (by omega)]; rw [Int.natCast_emod]; rfl
theorem it_len {n k : Nat} {cs vs : List AV} (hkn : k < n) (hlen : cs.length = n * 6) (hvl : vs.length = cs.length) : k * 6 + 6 ≤ vs.length ∧ (k + 1) % n * 6 + 6 ≤ vs.length := by
  have hm : (k + 1) % n < n := Nat.mod_lt _ (by omega)
  generalize (k + 1) % n = j at *
  rw [hvl, hlen]
  have h1 := Nat.mul_le_mul_right 6 (show k + 1 ≤ n by omega)
  have h2 := Nat.mul_le_mul_right 6 (show j + 1 ≤ n by omega)
  constructor <;> omega
theorem it_meas {n k : Nat} (h : k < n) : n - ((k + 1 : Nat) : Int).toNat < n - (k : Int).toNat := by omega
theorem two_app (y p x : Value) (m : Nat) : ([y, p].toArray ++ Array.replicate m x)[0]? = some y ∧ ([y, p].toArray ++ Array.replicate m x)[1]? = some p := by
  simp [Array.getElem?_append]
theorem sSides : GoodQ (92, Ssides) := by
  intro cs0 xss h
  simp only at h
  unfold Ssides at h
  split at h
  case h_2 => cases h
  rename_i n cs
  split at h
  case isFalse => cases h
  rename_i hc
  obtain ⟨hlen, hn6⟩ := hc
  cases h
  refine ⟨⟨Try.f92, Try.func92, rfl, by decide +kernel⟩, fun S w lb hS hP l J Jx W hJs hJa hJxa hY h0 => ?_⟩
  simp only [PL, P1] at hP
  obtain ⟨pv, t, rfl, ⟨b, o, rfl, hb, hpc⟩, rfl⟩ := hP
  simp only [PC, P1] at hpc
  obtain ⟨⟨u, hu, ar, cap, rfl, hcap, hrow⟩, -⟩ := hpc
  obtain ⟨vs, hvl, hex, hvc⟩ : ∃ vs : List Value, vs.length = cs.length ∧ P1 S w (.row n (vs.map .cst)) (.slice ar n cap) ∧ ∀ (j : Nat) (c : AV), cs[j]? = some c → ∃ v, vs[j]? = some v ∧ P1 S w c v := by
    rcases hrow with ⟨hn, rfl⟩ | ⟨b', o', rfl, hb', hpc'⟩
    · exact ⟨[], rfl, by simp only [P1]; exact ⟨ar, cap, rfl, hcap, .inl ⟨hn, rfl⟩⟩, fun j c hj => by simp at hj⟩
    · obtain ⟨vs, e1, e2, e3⟩ := exact_row hpc'
      exact ⟨vs, e1, by simp only [P1]; exact ⟨_, cap, rfl, hcap, .inr ⟨b', o', rfl, hb', e2⟩⟩, e3⟩
  have hptr : ∀ W' : World, (∀ b, S b → W'.heap[b]? = w.heap[b]?) → P1 S W' (.rptr [.row n (vs.map .cst)] 0) (.pointer (some ⟨b, o + 0, none⟩)) := fun W' hs => by
    refine P1.mono (fun _ h => h) hs _ _ ?_
    simp only [P1, PC]
    exact ⟨b, o, rfl, hb, ⟨_, hu, by simpa only [P1] using hex⟩, trivial⟩
  have hsb : ∀ W' : World, (∀ b, S b → W'.heap[b]? = w.heap[b]?) → ∀ b, S b → b < W'.heap.size := fun W' hs b hb => by
    have h1 := hs b hb
    have h2 := hS b hb
    rw [Array.getElem?_eq_getElem h2] at h1
    exact (Array.getElem?_eq_some_iff.1 h1).1
  have hheap : ∀ W' : World, (∀ b, S b → W'.heap[b]? = w.heap[b]?) → Heap (fun b => b < W'.heap.size) none' S [] [] W' := fun W' hs =>
    ⟨fun id => by simp [BR, none'], fun i j b n m h => by simp [none'] at h, fun id b n h => by simp [none'] at h, fun id b n h => by simp [none'] at h, rfl, hsb W' hs, fun _ h => h⟩
  have later : ∀ {K S' : Nat → Prop} {ρ ρ' : Nat → Ab.Loc} {A B : World}, (∀ b, b < A.heap.size → K b) → ∀ {S0 : Nat → Prop}, Ext K S0 S' ρ ρ' A B → ExtV (fun _ => False) (fun _ => False) A B := fun hK _ X =>
    ⟨X.os, X.tape, X.output, X.size, fun b hb => X.kept b (hK b hb), fun _ h => h, fun _ h => h.elim, fun _ h => h.elim⟩
  let yv : Value := .func (.yield l) #[] #[]
  let pv : Value := .pointer (some ⟨b, o + 0, none⟩)
  let St : Int → AS := fun k => ⟨[.cst yv, .rptr [.row n (vs.map .cst)] 0, .any, .any, .any, .int .i64 n, .int .i64 k, .any, .any, .any, .any, .any, .any, .any, .any, .any, .any, .any, .any, .any, .any, .any, .any, .any, .any], [], []⟩
  let Tm : Act → Int → Prop := fun a k => a.tmps.size = 25 ∧ a.defers = [] ∧ a.tmps[0]? = some yv ∧ a.tmps[1]? = some pv ∧ a.tmps[5]? = some (.int .i64 n) ∧ a.tmps[6]? = some (.int .i64 k)
  have rel : ∀ (a : Act) (W' : World) (k : Int), (∀ b, S b → W'.heap[b]? = w.heap[b]?) → Tm a k → Rel (fun b => b < W'.heap.size) none' S (St k) a W' := by
    rintro a W' k hs ⟨t1, t2, t3, t4, t5, t6⟩
    refine ⟨by simp [St, t1], fun t v ht => ?_, hheap W' hs, by rw [t2]; exact Dfr.nil _ _ _⟩
    have any : ∀ t, t < 25 → ∃ u, a.tmps[t]? = some u ∧ V3 none' S W' .any u := fun t ht => ⟨a.tmps[t], Array.getElem?_eq_getElem (by omega), trivial⟩
    match t, ht with
    | 0, ht => simp [St] at ht; subst ht; exact ⟨_, t3, by refine ⟨rfl, rfl⟩⟩
    | 1, ht => simp only [St, List.getElem?_cons_succ, List.getElem?_cons_zero, Option.some.injEq] at ht; subst ht; exact ⟨_, t4, hptr W' hs⟩
    | 2, ht | 3, ht | 4, ht | 7, ht | 8, ht | 9, ht | 10, ht | 11, ht | 12, ht | 13, ht | 14, ht | 15, ht | 16, ht | 17, ht | 18, ht | 19, ht | 20, ht | 21, ht | 22, ht | 23, ht | 24, ht => simp [St] at ht; subst ht; exact any _ (by omega)
    | 5, ht => simp [St] at ht; subst ht; exact ⟨_, t5, by simp only [V3, V2, V1, P1]⟩
    | 6, ht => simp [St] at ht; subst ht; exact ⟨_, t6, by simp only [V3, V2, V1, P1]⟩
    | t + 25, ht => simp [St] at ht
  refine (callsIn_wide (n := 0)).1 (callsIn_of_wp Try.func92 rfl trivial ?_ rfl)
  have hW : ∀ b, S b → W.heap[b]? = w.heap[b]? := hJs 0 W h0
  have R0 : Rel (fun b => b < W.heap.size) none' S (startA Try.f92 [.cst yv, .rptr [.row n (vs.map .cst)] 0] [] []) { tmps := [yv, pv].toArray ++ Array.replicate (Try.f92.ntmps - [yv, pv].toArray.size) Go.undef, defers := [] } W :=
    start_rel (hheap W hW) ⟨rfl, fun j c hj => by
      match j, hj with
      | 0, hj => simp at hj; subst hj; exact ⟨_, rfl, by refine ⟨rfl, rfl⟩⟩
      | 1, hj => simp only [List.getElem?_cons_succ, List.getElem?_cons_zero, Option.some.injEq] at hj; subst hj; exact ⟨_, rfl, hptr W hW⟩
      | j + 2, hj => simp at hj⟩ Try.f92
  have dec : ∀ {a b : Act} {ds : List Oper}, Kp ds a b → ∀ t, ds.all (fun o => o.dst != some t) = true → b.tmps[t]? = a.tmps[t]? := fun h t ht => h.tmp t (fun o ho e => by have := List.all_eq_true.1 ht o ho; rw [e] at this; simp at this)
  have int' : ∀ {K S' : Nat → Prop} {ρ : Nat → Ab.Loc} {s : AS} {a : Act} {A : World} (R : Rel K ρ S' s a A) (t : Nat) (z : Int), s.tmps[t]? = some (.int .i64 z) → a.tmps[t]? = some (.int .i64 z) := fun R t z h => by
    obtain ⟨u, hu, hv⟩ := R.tmp t _ h
    rw [int_of hv] at hu; exact hu
  refine wpIn_seq (region_sound (E := E_it) (ro := none) (s' := ⟨(((startA Try.f92 [.cst yv, .rptr [.row n (vs.map .cst)] 0] [] []).tmps.set 4 (.row n (vs.map .cst))).set 5 (.int .i64 n)).set 6 (.int .i64 0), [], []⟩) (mkS_ok alls_nil) mixed (fun h => by cases h) ?r0 R0 (fun ρ1 S1 a1 w1 R1 k1 X1 => ?_))
  case r0 => simp [Try.f92, startA, runRegion, runL, stepA, E_it]
  have T1 : Tm a1 0 := ⟨by rw [← R1.len]; simp [startA, Try.f92], by rw [k1.dfr], (dec k1 0 (by decide +kernel)).trans (two_app _ _ _ _).1, (dec k1 1 (by decide +kernel)).trans (two_app _ _ _ _).2, int' R1 5 _ (by simp [startA, Try.f92]), int' R1 6 _ (by simp [startA, Try.f92])⟩
  have J1 : J 0 w1 := hJa _ _ _ h0 (later (fun _ h => h) X1)
  clear R1 k1 X1 R0
  let rd : Act → Int := fun a => itRd a
  refine wpIn_block (wpIn_loop (fun a W' => ∃ k : Nat, k ≤ n ∧ J k W' ∧ Tm a k) (fun a _ => n - (rd a).toNat) ⟨0, Nat.zero_le _, J1, T1⟩ ?_)
  rintro a2 w2 ⟨k, hk, hJ, hT⟩
  have hs2 := hJs k w2 hJ
  have R2 := rel a2 w2 k hs2 hT
  obtain ⟨t1, t2, t3, t4, t5, t6⟩ := hT
  have hrd : rd a2 = k := by simp only [rd, itRd, t6]
  refine wpIn_seq (region_sound (E := E_it) (ro := none) (s' := ⟨(St k).tmps.set 7 (.bool (decide ((k : Int) < n))), [], []⟩) (mkS_ok alls_nil) mixed (fun h => by cases h) ?r1 R2 (fun ρ3 S3 a3 w3 R3 k3 X3 => ?_))
  case r1 => simp [St, runRegion, runL, stepA, E_it]
  have J3 : J k w3 := hJa _ _ _ hJ (later (fun _ h => h) X3)
  have T3 : Tm a3 k := ⟨by rw [← R3.len]; simp [St], by rw [k3.dfr, t2], by rw [dec k3 0 (by decide +kernel), t3], by rw [dec k3 1 (by decide +kernel), t4], by rw [dec k3 5 (by decide +kernel), t5], by rw [dec k3 6 (by decide +kernel), t6]⟩
  refine wpIn_seq (wpIn_cond (t := decide ((k : Int) < n)) (bool_of (by have := R3.look (.tmp 7); simpa [St] using this)) ?_)
  have res : ∀ (tm : Array Value) (A : World), (results Try.f92 tm).run Try.prog A = .ok (.tuple #[]) A := fun tm A => by simp [results, Try.f92]
  by_cases hkn : k < n
  case neg =>
    have hkn' : k = n := by omega
    rw [decide_eq_false (by omega)]
    refine wpIn_exit ?_
    simp only [Exit.then, Exit.inBlock, if_true]
    exact ⟨T3.2.1, _, res _ _, ⟨_, rfl⟩, .inl (by simpa [pairsA, hkn'] using (hkn' ▸ J3 : J n w3))⟩
  case pos =>
  rw [decide_eq_true (by omega)]
  refine wpIn_skip ?_
  have hs3 := hJs k w3 J3
  have R3' := rel a3 w3 k hs3 T3
  obtain ⟨u1, u2, u3, u4, u5, u6⟩ := T3
  refine wpIn_seq (wpIn_block (wpIn_seq (region_sound (E := E_it) (ro := none) (s' := ⟨((St k).tmps.set 8 (.int .i64 k)).set 3 (.int .i64 k), [], []⟩) (mkS_ok alls_nil) mixed (fun h => by cases h) ?r2 R3' (fun ρ4 S4 a4 w4 R4 k4 X4 => ?_))))
  case r2 => simp [St, runRegion, runL, stepA, E_it]
  have J4 : J k w4 := hJa _ _ _ J3 (later (fun _ h => h) X4)
  have hs4 := hJs k w4 J4
  have T4 : Tm a4 k := ⟨by rw [← R4.len]; simp [St], by rw [k4.dfr, u2], by rw [dec k4 0 (by decide +kernel), u3], by rw [dec k4 1 (by decide +kernel), u4], by rw [dec k4 5 (by decide +kernel), u5], by rw [dec k4 6 (by decide +kernel), u6]⟩
  have v3 : a4.tmps[3]? = some (.int .i64 k) := int' R4 3 _ (by simp [St])
  refine wpIn_seq (wpIn_region_any mixed ?_)
  have X5 : ExtV (fun _ => False) (fun _ => False) w4 { w4 with drawn := w4.drawn + 1 } := ⟨rfl, rfl, rfl, Nat.le_refl _, fun _ _ => rfl, fun _ h => h, fun _ h => h.elim, fun _ h => h.elim⟩
  generalize ({ w4 with drawn := w4.drawn + 1 } : World) = w5 at X5 ⊢
  have J5 : J k w5 := hJa _ _ _ J4 X5
  have hs5 := hJs k w5 J5
  have R5 : Rel (fun b => b < w5.heap.size) none' S ⟨(St k).tmps.set 3 (.int .i64 k), [], []⟩ a4 w5 := by
    have r := rel a4 w5 k hs5 T4
    refine ⟨by simpa using r.len, fun t v ht => ?_, r.mem, r.dfr⟩
    rw [List.getElem?_set] at ht
    split at ht
    · rename_i e; subst e
      split at ht
      · cases ht; exact ⟨_, v3, by simp only [V3, V2, V1, P1]⟩
      · cases ht
    · exact r.tmp t v ht
  obtain ⟨hk0, hw1, hmod, hml, hn0⟩ := it_arith hkn hn6
  obtain ⟨p1, p2⟩ := it_len (cs := cs) (vs := vs.map AV.cst) hkn hlen (by rw [List.length_map, hvl])
  rw [List.length_map] at p1 p2
  generalize hj : (k + 1) % n = j at *
  have J5' := J5
  show wpAnyIn (FR none) 0 Try.prog .any _ _ (13 + 2) _ a4 w5
  let SF : AS := ⟨[.cst yv, .rptr [.row n (vs.map .cst)] 0, .any, .int .i64 k, .any, .int .i64 n, .int .i64 k, .any, .any, .cst yv, .row n (vs.map .cst), .int .i64 k, .rptr (vs.map .cst) (k * 6), .agg (((vs.map .cst).drop (k * 6)).take 6), .row n (vs.map .cst), .int .i64 k, .int .i64 ((k + 1 : Nat) : Int), .row n (vs.map .cst), .int .i64 n, .int .i64 j, .rptr (vs.map .cst) (j * 6), .agg (((vs.map .cst).drop (j * 6)).take 6), .any, .any, .any], [], []⟩
  refine any_pre (E := E_it) (dep := []) (n0 := 0) (sF := SF) (m := 13) (post := 2) (mkS_ok alls_nil) (okR_plan (by kernel_rfl)) rfl ?hpost 13 _ _ _ _ none' S R5 rfl (by kernel_rfl) ?un ?cl ?dead ?run ?fin
  case hpost =>
    intro i h1 h2 q hq
    have hi : i = 13 ∨ i = 14 := by simp only [List.size_toArray, List.length_cons, List.length_nil] at h2; omega
    rcases hi with rfl | rfl
    · exact it_all (by kernel_rfl) q hq
    · exact it_all (by kernel_rfl) q hq
  case un => intro i h1 h2; rw [Array.getD_eq_getD_getElem?, Array.getElem?_replicate, if_pos h2]; rfl
  case cl =>
    intro i o hi hl
    have h2 := (List.getElem?_eq_some_iff.1 hi).1
    rw [Array.length_toList] at h2
    rw [Array.getD_eq_getD_getElem?, Array.getElem?_replicate, if_pos h2] at hl
    cases hl
  case dead => exact it_dead (by kernel_rfl)
  case run =>
    have hr : restOf 13 (Array.replicate 15 false) = [0, 1, 2, 3, 4, 5, 6, 7, 8, 9, 10, 11, 12] := by kernel_rfl
    show runI _ _ _ _ (restOf 13 (Array.replicate 15 false)) _ _ = _
    rw [hr]
    simp [St, SF, runI, stepI, noteI, footI, stepA, slotsOf, E_it, hw1, hmod, hn0, hk0, p1, p2, Nat.ne_of_gt (Nat.lt_of_le_of_lt (Nat.zero_le k) hkn), hml, hkn]
    done
  case fin =>
    intro L q1 q2 q3 ρ6 S6 a6 w6 R6 k6 X6
    have J6 : J k w6 := hJa _ _ _ J5 (later (fun _ h => h) X6)
    have hs6 := hJs k w6 J6
    have hL : L = Array.ofFn (fun i : Fin 15 => decide (i.1 < 13)) := it_list q1 q2 q3
    subst hL
    have e9 : a6.eval (.tmp 9) = yv := by
      have := R6.look (.tmp 9)
      simp only [SF, lookA, List.getD_cons_succ, List.getD_cons_zero, V3, V2, V1, P1] at this
      exact this.1
    have e13 : a6.eval (.tmp 13) = .agg ((vs.drop (k * 6)).take 6).toArray := cst_agg (by
      have := R6.look (.tmp 13)
      simp only [SF, lookA, List.getD_cons_succ, List.getD_cons_zero] at this
      rw [List.map_take, List.map_drop]; exact this)
    have e21 : a6.eval (.tmp 21) = .agg ((vs.drop (j * 6)).take 6).toArray := cst_agg (by
      have := R6.look (.tmp 21)
      simp only [SF, lookA, List.getD_cons_succ, List.getD_cons_zero] at this
      rw [List.map_take, List.map_drop]; exact this)
    have chunk : ∀ o : Nat, V2 none' S w6 (.agg ((cs.drop o).take 6)) (.agg ((vs.drop o).take 6).toArray) := fun o => by
      simp only [V2]
      refine ⟨_, rfl, by simp [hvl], fun i c hc => ?_⟩
      rw [List.getElem?_take] at hc
      split at hc
      · rename_i hi
        rw [List.getElem?_drop] at hc
        obtain ⟨v, hv, h1⟩ := hvc _ _ hc
        exact ⟨v, by rw [List.getElem?_toArray, List.getElem?_take, if_pos hi, List.getElem?_drop]; exact hv, (P1.mono (fun _ h => h) hs6 _ _ h1).v1⟩
      · cases hc
    obtain ⟨fn', tm', as', bd', hy, hR⟩ := hY k [.agg ((cs.drop (k * 6)).take 6), .agg ((cs.drop (j * 6)).take 6)] [a6.eval (.tmp 13), a6.eval (.tmp 21)] w6 J6 (by
        simp only [pairsA, List.getElem?_map, List.getElem?_range hkn, Option.map_some, hj]) ⟨rfl, fun i c hc => by
        match i, hc with
        | 0, hc => simp only [List.getElem?_cons_zero, Option.some.injEq] at hc; subst hc; exact ⟨_, rfl, by rw [e13]; exact chunk _⟩
        | 1, hc => simp only [List.getElem?_cons_succ, List.getElem?_cons_zero, Option.some.injEq] at hc; subst hc; exact ⟨_, rfl, by rw [e21]; exact chunk _⟩
        | i + 2, hc => simp at hc⟩
    refine it_step (i := 13) (rs := [13]) (by kernel_rfl) (by simp) ?_
    unfold wpOpIn
    simp only [List.getElem?_toArray, List.getElem?_cons_succ, List.getElem?_cons_zero]
    refine (if_pos rfl).mpr ?_
    refine ⟨fun _ _ => trivial, ?_⟩
    rw [Oper.semAt_eq _ _ _ (by simp)]
    have hrun := run_callY (P := Try.prog) (l := l) (ev := a6.eval) (c := { callee := .value (.tmp 9), args := #[.tmp 13, .tmp 21], argTypes := #[55, 55] }) (x := .tmp 9) rfl e9
    unfold execOp
    simp only
    rw [hrun]
    simp only [List.map_cons, List.map_nil]
    rw [hy]
    refine ⟨(fun q => by cases q), RoundIn.mono hR ?_⟩
    have z6 : a6.tmps.size = 25 := by rw [← R6.len]; rfl
    have T6 : Tm a6 k := ⟨z6, by rw [k6.dfr, T4.2.1], by rw [dec k6 0 (by decide +kernel), T4.2.2.1], by rw [dec k6 1 (by decide +kernel), T4.2.2.2.1], by rw [dec k6 5 (by decide +kernel), T4.2.2.2.2.1], by rw [dec k6 6 (by decide +kernel), T4.2.2.2.2.2]⟩
    rintro e W' (⟨rfl, hJ'⟩ | ⟨rfl, hJ'⟩)
    · refine it_step (i := 14) (rs := [14]) (by kernel_rfl) (by simp) ?_
      unfold wpOpIn
      simp only [List.getElem?_toArray, List.getElem?_cons_succ, List.getElem?_cons_zero]
      refine (if_pos rfl).mpr ?_
      refine ⟨fun _ _ => trivial, ?_⟩
      rw [Oper.semAt_eq _ _ _ (by simp)]
      have e22 : (a6.put (some 22) (.bool true)).eval (.tmp 22) = .bool true := by simp [Act.put, Act.eval, Array.getD_eq_getD_getElem?, z6]
      unfold execOp
      simp only [e22, Op.unary, Sem.run_pure, Sem.run_bind, Result.andThen_ok]
      refine And.intro (a := Region.ready .any _ _ = []) (by kernel_rfl) ?_
      have z8 : ((a6.put (some 22) (.bool true)).put (some 23) (.bool (!true))).tmps.size = 25 := by simp [Act.put, z6]
      have e23 : ((a6.put (some 22) (.bool true)).put (some 23) (.bool (!true))).eval (.tmp 23) = .bool false := by simp [Act.put, Act.eval, Array.getD_eq_getD_getElem?, z6]
      have d8 : ((a6.put (some 22) (.bool true)).put (some 23) (.bool (!true))).defers = [] := T6.2.1
      have s8 : ∀ t : Nat, t ≠ 22 → t ≠ 23 → ((a6.put (some 22) (.bool true)).put (some 23) (.bool (!true))).tmps[t]? = a6.tmps[t]? := fun t h1 h2 => by
        show ((a6.tmps.setIfInBounds 22 _).setIfInBounds 23 _)[t]? = _
        rw [Array.getElem?_setIfInBounds_ne (Ne.symm h2), Array.getElem?_setIfInBounds_ne (Ne.symm h1)]
      generalize (a6.put (some 22) (.bool true)).put (some 23) (.bool (!true)) = a8 at z8 e23 d8 s8 ⊢
      refine wpIn_cond (t := false) e23 ?_
      refine wpIn_skip ?_
      have T8 : Tm a8 k := ⟨z8, d8, (s8 0 (by decide) (by decide)).trans T6.2.2.1, (s8 1 (by decide) (by decide)).trans T6.2.2.2.1, (s8 5 (by decide) (by decide)).trans T6.2.2.2.2.1, (s8 6 (by decide) (by decide)).trans T6.2.2.2.2.2⟩
      have hs8 := hJs (k + 1) W' hJ'
      have R8 := rel a8 W' k hs8 T8
      refine region_sound (E := E_it) (ro := none) (s' := ⟨((St k).tmps.set 24 (.int .i64 ((k : Int) + 1))).set 6 (.int .i64 ((k : Int) + 1)), [], []⟩) (mkS_ok alls_nil) mixed (fun h => by cases h) ?r4 R8 (fun ρ9 S9 a9 w9 R9 k9 X9 => ?_)
      case r4 => simp [St, runRegion, runL, stepA, E_it, hw1]
      have T9 : Tm a9 ((k + 1 : Nat) : Int) := ⟨by rw [← R9.len]; simp [St], by rw [k9.dfr, d8], by rw [dec k9 0 (by decide +kernel), T8.2.2.1], by rw [dec k9 1 (by decide +kernel), T8.2.2.2.1], by rw [dec k9 5 (by decide +kernel), T8.2.2.2.2.1], by rw [Int.natCast_add]; exact int' R9 6 _ (by simp [St])⟩
      refine ⟨⟨k + 1, Nat.succ_le_of_lt hkn, hJa _ _ _ hJ' (later (fun _ h => h) X9), T9⟩, ?_⟩
      have h9 : rd a9 = ((k + 1 : Nat) : Int) := by simp only [rd, itRd, T9.2.2.2.2.2]
      rw [h9, hrd]
      exact it_meas hkn
    · refine it_step (i := 14) (rs := [14]) (by kernel_rfl) (by simp) ?_
      unfold wpOpIn
      simp only [List.getElem?_toArray, List.getElem?_cons_succ, List.getElem?_cons_zero]
      refine (if_pos rfl).mpr ?_
      refine ⟨fun _ _ => trivial, ?_⟩
      rw [Oper.semAt_eq _ _ _ (by simp)]
      have e22 : (a6.put (some 22) (.bool false)).eval (.tmp 22) = .bool false := by simp [Act.put, Act.eval, Array.getD_eq_getD_getElem?, z6]
      unfold execOp
      simp only [e22, Op.unary, Sem.run_pure, Sem.run_bind, Result.andThen_ok]
      refine And.intro (a := Region.ready .any _ _ = []) (by kernel_rfl) ?_
      have z8 : ((a6.put (some 22) (.bool false)).put (some 23) (.bool (!false))).tmps.size = 25 := by simp [Act.put, z6]
      have e23 : ((a6.put (some 22) (.bool false)).put (some 23) (.bool (!false))).eval (.tmp 23) = .bool true := by simp [Act.put, Act.eval, Array.getD_eq_getD_getElem?, z6]
      have d8 : ((a6.put (some 22) (.bool false)).put (some 23) (.bool (!false))).defers = [] := T6.2.1
      have s8 : ∀ t : Nat, t ≠ 22 → t ≠ 23 → ((a6.put (some 22) (.bool false)).put (some 23) (.bool (!false))).tmps[t]? = a6.tmps[t]? := fun t h1 h2 => by
        show ((a6.tmps.setIfInBounds 22 _).setIfInBounds 23 _)[t]? = _
        rw [Array.getElem?_setIfInBounds_ne (Ne.symm h2), Array.getElem?_setIfInBounds_ne (Ne.symm h1)]
      generalize (a6.put (some 22) (.bool false)).put (some 23) (.bool (!false)) = a8 at z8 e23 d8 s8 ⊢
      refine wpIn_cond (t := true) e23 ?_
      refine wpIn_ret ?_
      exact ⟨d8, _, res _ _, ⟨_, rfl⟩, .inr hJ'⟩
end Go.Proofs.Ytofklpmlgfbmlaa.ZRat
namespace Go.Proofs.Ytofklpmlgfbmlaa.ZRat
open Go.RowKit Go.Proofs.Ytofklpmlgfbmlaa.Wd
open Go Go.Proofs.Ytofklpmlgfbmlaa.Ab Go.Proofs Go.Proofs.Ytofklpmlgfbmlaa.Num Go.Proofs.Ytofklpmlgfbmlaa.ZRatP
set_option linter.unusedSimpArgs false
set_option linter.unusedVariables false
set_option maxHeartbeats 8000000
set_option maxRecDepth 100000
abbrev P2 := Rat × Rat
def acr (a b : P2) : Rat := a.1 * b.2 - a.2 * b.1
def momX (a b : P2) : Rat := (a.1 + b.1) * acr a b
def momY (a b : P2) : Rat := (a.2 + b.2) * acr a b
def tri (a b c : P2) : Rat := (b.1 - a.1) * (c.2 - a.2) - (b.2 - a.2) * (c.1 - a.1)
def triX (a b c : P2) : Rat := tri a b c * (a.1 + b.1 + c.1)
def triY (a b c : P2) : Rat := tri a b c * (a.2 + b.2 + c.2)
def pAt (l : List P2) (i : Nat) : P2 := l.getD i (0, 0)
/-- The sum over each spot and the one that follows. -/
def sumTo (f : P2 → P2 → Rat) (l : List P2) : Nat → Rat
  | 0 => 0
  | i + 1 => sumTo f l i + f (pAt l i) (pAt l ((i + 1) % l.length))
/-- The sum over triangles from the first spot on. -/
def refT (g : P2 → P2 → P2 → Rat) (l : List P2) : Nat → Rat
  | 0 => 0
  | k + 1 => refT g l k + g (pAt l 0) (pAt l (k + 1)) (pAt l (k + 2))
theorem tri_acr (a b c : P2) : tri a b c = acr a b + acr b c + acr c a := by unfold tri acr; grind
theorem triX_mom (a b c : P2) : triX a b c = momX a b + momX b c + momX c a := by unfold triX tri momX acr; grind
theorem triY_mom (a b c : P2) : triY a b c = momY a b + momY b c + momY c a := by unfold triY tri momY acr; grind
theorem acr_anti (a b : P2) : acr a b = -acr b a := by unfold acr; grind
theorem momX_anti (a b : P2) : momX a b = -momX b a := by unfold momX acr; grind
theorem momY_anti (a b : P2) : momY a b = -momY b a := by unfold momY acr; grind
section
variable {f : P2 → P2 → Rat} {g : P2 → P2 → P2 → Rat}
theorem anti0 (ha : ∀ a b, f a b = -f b a) (a : P2) : f a a = 0 := by have := ha a a; grind
theorem ref_sum_aux (hg : ∀ a b c, g a b c = f a b + f b c + f c a) (ha : ∀ a b, f a b = -f b a) (l : List P2) : ∀ k, k + 1 < l.length → refT g l k = sumTo f l (k + 1) + f (pAt l (k + 1)) (pAt l 0)
  | 0, h => by
    simp only [refT, sumTo, Nat.zero_add]
    rw [Nat.mod_eq_of_lt (by omega)]
    have := ha (pAt l 0) (pAt l 1)
    grind
  | k + 1, h => by
    have ih := ref_sum_aux hg ha l k (by omega)
    have e : sumTo f l (k + 1 + 1) = sumTo f l (k + 1) + f (pAt l (k + 1)) (pAt l ((k + 1 + 1) % l.length)) := rfl
    rw [Nat.mod_eq_of_lt h] at e
    rw [refT, ih, hg, e]
    have := ha (pAt l 0) (pAt l (k + 1))
    generalize sumTo f l (k + 1) = s
    grind
theorem ref_sum (hg : ∀ a b c, g a b c = f a b + f b c + f c a) (ha : ∀ a b, f a b = -f b a) (l : List P2) : refT g l (l.length - 2) = sumTo f l l.length := by
  rcases Nat.lt_or_ge l.length 2 with h | h
  · have : l.length = 0 ∨ l.length = 1 := by omega
    rcases this with e | e
    · rw [e]; rfl
    · rw [e]; simp only [refT, sumTo, e, Nat.mod_self]; rw [anti0 ha, Rat.add_zero]; rfl
  · rw [ref_sum_aux hg ha l _ (by omega)]
    have e : ∀ n, l.length = n + 1 → sumTo f l (n + 1) = sumTo f l n + f (pAt l n) (pAt l 0) := fun n hn => by rw [sumTo, ← hn, Nat.mod_self]
    have e1 := e (l.length - 1) (by omega)
    rw [show l.length - 1 + 1 = l.length by omega] at e1
    rw [e1, show l.length - 2 + 1 = l.length - 1 by omega]
theorem sum_small (ha : ∀ a b, f a b = -f b a) (l : List P2) (h : l.length < 3) : sumTo f l l.length = 0 := by
  have : l.length = 0 ∨ l.length = 1 ∨ l.length = 2 := by omega
  rcases this with e | e | e
  · rw [e]; rfl
  · rw [e]; simp only [sumTo, e, Nat.mod_self]; rw [anti0 ha, Rat.add_zero]
  · rw [e]; simp only [sumTo, e, Nat.mod_self]
    have := ha (pAt l 0) (pAt l 1)
    simp only [show (0 + 1) % 2 = 1 from rfl]
    grind
def chain (f : P2 → P2 → Rat) : List P2 → Rat
  | x :: y :: r => f x y + chain f (y :: r)
  | _ => 0
def cyc (f : P2 → P2 → Rat) : List P2 → Rat
  | [] => 0
  | a :: t => chain f (a :: t ++ [a])
theorem chain_app : ∀ (s : List P2) (y : P2) (t : List P2), chain f (s ++ y :: t) = chain f (s ++ [y]) + chain f (y :: t)
  | [], y, t => by simp only [List.nil_append, chain]; exact (Rat.zero_add _).symm
  | [x], y, t => by simp only [List.cons_append, List.nil_append, chain, Rat.add_zero]
  | x :: z :: s, y, t => by
    have := chain_app (z :: s) y t
    simp only [List.cons_append, chain] at this ⊢
    rw [this, Rat.add_assoc]
theorem cyc_rot (s t : List P2) : cyc f (s ++ t) = cyc f (t ++ s) := by
  cases s with
  | nil => simp
  | cons x s =>
    cases t with
    | nil => simp
    | cons y t =>
      simp only [List.cons_append, cyc]
      have h1 := chain_app (f := f) (x :: s) y (t ++ [x])
      have h2 := chain_app (f := f) (y :: t) x (s ++ [y])
      simp only [List.cons_append, List.append_assoc] at h1 h2 ⊢
      rw [h1, h2, Rat.add_comm]
theorem cyc_dup (h0 : ∀ a, f a a = 0) (s : List P2) (y : P2) (t : List P2) : cyc f (s ++ y :: y :: t) = cyc f (s ++ y :: t) := by
  rw [cyc_rot s, cyc_rot s]
  simp only [List.cons_append, cyc, chain, h0, Rat.zero_add]
theorem chain_rev (ha : ∀ a b, f a b = -f b a) : ∀ l : List P2, chain f l.reverse = -chain f l
  | [] => by simp [chain]
  | [x] => by simp [chain]
  | x :: y :: r => by
    have ih := chain_rev ha (y :: r)
    simp only [List.reverse_cons, List.append_assoc, List.cons_append, List.nil_append] at ih ⊢
    rw [chain_app, ih]
    simp only [chain]
    rw [ha y x]
    grind
theorem cyc_rev (ha : ∀ a b, f a b = -f b a) (l : List P2) : cyc f l.reverse = -cyc f l := by
  cases l with
  | nil => simp [cyc]
  | cons a t =>
    rw [List.reverse_cons, cyc_rot]
    simp only [List.cons_append, List.nil_append, cyc]
    rw [← chain_rev ha (a :: (t ++ [a]))]
    simp
theorem chain_take (l : List P2) : ∀ i, i < l.length → chain f (l.take (i + 1)) = sumTo f l i
  | 0, h => by
    cases l with
    | nil => simp at h
    | cons a t => simp [chain, sumTo]
  | i + 1, h => by
    have ih := chain_take l i (by omega)
    rw [sumTo, ← ih, Nat.mod_eq_of_lt h]
    have e1 : l.take (i + 1) = l.take i ++ [pAt l i] := by
      rw [List.take_add_one, List.getElem?_eq_getElem (by omega)]
      simp [pAt, List.getElem?_eq_getElem (show i < l.length by omega)]
    have e2 : l.take (i + 1 + 1) = l.take i ++ pAt l i :: [pAt l (i + 1)] := by
      rw [List.take_add_one, e1, List.getElem?_eq_getElem h]
      simp [pAt, List.getElem?_eq_getElem h]
    rw [e2, chain_app, ← e1]
    simp only [chain, Rat.add_zero]
theorem sum_cyc (l : List P2) : sumTo f l l.length = cyc f l := by
  cases l with
  | nil => rfl
  | cons a t =>
    have h := chain_take (f := f) (a :: t) t.length (by simp)
    rw [List.length_cons, sumTo, ← h, List.length_cons, Nat.mod_self, List.take_of_length_le (by simp), cyc]
    have e : a :: t = (a :: t).take t.length ++ [pAt (a :: t) t.length] := by
      have := List.take_append_drop t.length (a :: t)
      rw [List.drop_eq_getElem_cons (by simp), List.drop_of_length_le (by simp)] at this
      rw [pAt, List.getD_eq_getElem?_getD, List.getElem?_eq_getElem (by simp)]
      exact this.symm
    have h0 : pAt (a :: t) 0 = a := rfl
    rw [h0]
    generalize pAt (a :: t) t.length = z at *
    generalize (a :: t).take t.length = q at *
    rw [e, List.append_assoc, List.cons_append, List.nil_append, chain_app q z [a]]
    simp only [chain, Rat.add_zero]
theorem sum_rot (s t : List P2) : sumTo f (s ++ t) (s ++ t).length = sumTo f (t ++ s) (t ++ s).length := by rw [sum_cyc, sum_cyc, cyc_rot]
theorem sum_dup (ha : ∀ a b, f a b = -f b a) (s : List P2) (y : P2) (t : List P2) : sumTo f (s ++ y :: y :: t) (s ++ y :: y :: t).length = sumTo f (s ++ y :: t) (s ++ y :: t).length := by rw [sum_cyc, sum_cyc, cyc_dup (anti0 ha)]
theorem sum_rev (ha : ∀ a b, f a b = -f b a) (l : List P2) : sumTo f l.reverse l.reverse.length = -sumTo f l l.length := by rw [sum_cyc, sum_cyc, cyc_rev ha]
end
/-- Twice a polygon's area; the sums of which its center is made. -/
def areaQ (l : List P2) : Rat := sumTo acr l l.length
def sumX (l : List P2) : Rat := sumTo momX l l.length
def sumY (l : List P2) : Rat := sumTo momY l l.length
theorem area_ref (l : List P2) : refT tri l (l.length - 2) = areaQ l := ref_sum tri_acr acr_anti l
theorem sumX_ref (l : List P2) : refT triX l (l.length - 2) = sumX l := ref_sum triX_mom momX_anti l
theorem sumY_ref (l : List P2) : refT triY l (l.length - 2) = sumY l := ref_sum triY_mom momY_anti l
/-- Moved. -/
def mvP (x y : Rat) (p : P2) : P2 := (p.1 + x, p.2 + y)
theorem pAt_mv {l : List P2} {x y : Rat} {i : Nat} (h : i < l.length) : pAt (l.map (mvP x y)) i = mvP x y (pAt l i) := by
  simp [pAt, List.getElem?_eq_getElem h]
theorem refT_mv (x y : Rat) (l : List P2) : ∀ k, k + 1 < l.length ∨ k = 0 → refT tri (l.map (mvP x y)) k = refT tri l k ∧ refT triX (l.map (mvP x y)) k = refT triX l k + 3 * x * refT tri l k ∧ refT triY (l.map (mvP x y)) k = refT triY l k + 3 * y * refT tri l k
  | 0, _ => by simp only [refT]; grind
  | k + 1, h => by
    obtain ⟨h1, h2, h3⟩ := refT_mv x y l k (by omega)
    have h' : k + 2 < l.length := by omega
    simp only [refT, h1, h2, h3, pAt_mv (show 0 < l.length by omega), pAt_mv (show k + 1 < l.length by omega), pAt_mv h']
    generalize pAt l 0 = a
    generalize pAt l (k + 1) = b
    generalize pAt l (k + 2) = c
    generalize refT tri l k = p
    generalize refT triX l k = q
    generalize refT triY l k = r
    simp only [tri, triX, triY, mvP]
    grind
theorem moved (x y : Rat) (l : List P2) : areaQ (l.map (mvP x y)) = areaQ l ∧ sumX (l.map (mvP x y)) = sumX l + 3 * x * areaQ l ∧ sumY (l.map (mvP x y)) = sumY l + 3 * y * areaQ l := by
  have h := refT_mv x y l (l.length - 2) (by omega)
  rw [← area_ref, ← area_ref, ← sumX_ref, ← sumX_ref, ← sumY_ref, ← sumY_ref, List.length_map]
  exact h
/-- To the left of all sides. -/
def leftOf (l : List P2) (s : P2) : Prop := ∀ i, i < l.length → 0 ≤ tri (pAt l i) (pAt l ((i + 1) % l.length)) s
theorem within_aux {l : List P2} (h : ∀ j, j < l.length → leftOf l (pAt l j)) (i : Nat) (hi : i < l.length) : ∀ k, k + 1 < l.length ∨ k = 0 →
    0 ≤ ((pAt l ((i + 1) % l.length)).1 - (pAt l i).1) * (refT triY l k - 3 * refT tri l k * (pAt l i).2) - ((pAt l ((i + 1) % l.length)).2 - (pAt l i).2) * (refT triX l k - 3 * refT tri l k * (pAt l i).1)
  | 0, _ => by simp only [refT]; grind
  | k + 1, hk => by
    have ih := within_aux h i hi k (by omega)
    have g0 := h 0 (by omega) i hi
    have g1 := h (k + 1) (by omega) i hi
    have g2 := h (k + 2) (by omega) i hi
    have gt := h 0 (by omega) (k + 1) (by omega)
    rw [Nat.mod_eq_of_lt (show k + 1 + 1 < l.length by omega)] at gt
    have gt' : 0 ≤ tri (pAt l (k + 1)) (pAt l (k + 2)) (pAt l 0) := gt
    clear gt h
    simp only [refT]
    generalize pAt l ((i + 1) % l.length) = B at *
    generalize pAt l i = A at *
    generalize pAt l 0 = a at *
    generalize pAt l (k + 1) = b at *
    generalize pAt l (k + 2) = c at *
    have e0 : tri b c a = tri a b c := by unfold tri; grind
    rw [e0] at gt'
    have p1 : 0 ≤ tri a b c * (tri A B a + tri A B b + tri A B c) := Rat.mul_nonneg gt' (Rat.add_nonneg (Rat.add_nonneg g0 g1) g2)
    have e1 : tri a b c * (tri A B a + tri A B b + tri A B c) = (B.1 - A.1) * (triY a b c - 3 * tri a b c * A.2) - (B.2 - A.2) * (triX a b c - 3 * tri a b c * A.1) := by
      unfold triX triY
      generalize tri a b c = t
      unfold tri
      grind
    rw [e1] at p1
    generalize triX a b c = x at *
    generalize triY a b c = y at *
    generalize tri a b c = t at *
    generalize refT triX l k = X at *
    generalize refT triY l k = Y at *
    generalize refT tri l k = T at *
    have e2 : (B.1 - A.1) * (Y + y - 3 * (T + t) * A.2) - (B.2 - A.2) * (X + x - 3 * (T + t) * A.1) = ((B.1 - A.1) * (Y - 3 * T * A.2) - (B.2 - A.2) * (X - 3 * T * A.1)) + ((B.1 - A.1) * (y - 3 * t * A.2) - (B.2 - A.2) * (x - 3 * t * A.1)) := by grind
    rw [e2]
    exact Rat.add_nonneg ih p1
theorem within {l : List P2} (h : ∀ j, j < l.length → leftOf l (pAt l j)) (hA : 0 < areaQ l) : leftOf l (sumX l / (3 * areaQ l), sumY l / (3 * areaQ l)) := by
  intro i hi
  have w := within_aux h i hi (l.length - 2) (by omega)
  rw [area_ref, sumX_ref, sumY_ref] at w
  generalize pAt l ((i + 1) % l.length) = B at *
  generalize pAt l i = A at *
  generalize sumX l = X at *
  generalize sumY l = Y at *
  generalize areaQ l = T at *
  have p : 0 < 3 * T := Rat.mul_pos (by decide) hA
  have e : tri A B (X / (3 * T), Y / (3 * T)) = ((B.1 - A.1) * (Y - 3 * T * A.2) - (B.2 - A.2) * (X - 3 * T * A.1)) / (3 * T) := by
    unfold tri
    have hn : 3 * T ≠ 0 := Ne.symm (Rat.ne_of_lt p)
    have hm : T ≠ 0 := Ne.symm (Rat.ne_of_lt hA)
    generalize A.1 = a1
    generalize A.2 = a2
    generalize B.1 = b1
    generalize B.2 = b2
    grind
  rw [e, Rat.div_def]
  exact Rat.mul_nonneg w (Rat.le_of_lt (Rat.inv_pos.2 p))
/-- A fraction as it lies: sign, words, words below; a spot. -/
abbrev RQ := Bool × List Int × List Int
abbrev RS := RQ × RQ
def cellsS (p : RS) : List AV := [.bool p.1.1, rowI .u32 p.1.2.1, rowI .u32 p.1.2.2, .bool p.2.1, rowI .u32 p.2.2.1, rowI .u32 p.2.2.2]
def okQ (L : Nat) (r : RQ) : Prop := (WB 4294967296 r.2.1 ∧ r.2.1.length ≤ L) ∧ WB 4294967296 r.2.2 ∧ r.2.2.length ≤ L
def okS (L : Nat) (p : RS) : Prop := okQ L p.1 ∧ okQ L p.2
def valQ (r : RQ) : Rat := mkRat (IVal r.1 r.2.1) (VB 4294967296 r.2.2)
def valS (p : RS) : P2 := (valQ p.1, valQ p.2)
def rowS (l : List RS) : AV := .row l.length (l.flatMap cellsS)
theorem rowI_inj {k : IntKind} {a b : List Int} (h : rowI k a = rowI k b) : a = b := by
  have h1 := unI_rowI k a
  rw [h, unI_rowI] at h1
  exact (Option.some.inj h1).symm
theorem cellsS_inj {p q : RS} (h : cellsS p = cellsS q) : p = q := by
  obtain ⟨⟨s, l, m⟩, t, u, v⟩ := p
  obtain ⟨⟨s', l', m'⟩, t', u', v'⟩ := q
  simp only [cellsS, List.cons.injEq, AV.bool.injEq, and_true] at h
  obtain ⟨h1, h2, h3, h4, h5, h6⟩ := h
  rw [h1, rowI_inj h2, rowI_inj h3, h4, rowI_inj h5, rowI_inj h6]
theorem flat_inj {α : Type} {c : α → List AV} {n : Nat} (hn : ∀ p, (c p).length = n + 1) (hc : ∀ {p q}, c p = c q → p = q) : ∀ {a b : List α}, a.flatMap c = b.flatMap c → a = b
  | [], [], _ => rfl
  | [], y :: t, h => by
    have := congrArg List.length h
    simp only [List.flatMap_cons, List.flatMap_nil, List.length_append, hn, List.length_nil] at this
    omega
  | x :: s, [], h => by
    have := congrArg List.length h
    simp only [List.flatMap_cons, List.flatMap_nil, List.length_append, hn, List.length_nil] at this
    omega
  | x :: s, y :: t, h => by
    simp only [List.flatMap_cons] at h
    obtain ⟨h1, h2⟩ := List.append_inj h (by rw [hn, hn])
    rw [hc h1, flat_inj hn hc h2]
theorem flat_len {α : Type} {c : α → List AV} {n : Nat} (hn : ∀ p, (c p).length = n) : ∀ l : List α, (l.flatMap c).length = l.length * n
  | [] => by simp
  | x :: s => by rw [List.flatMap_cons, List.length_append, hn, flat_len hn s, List.length_cons, Nat.add_mul]; omega
theorem flat_get {α : Type} {c : α → List AV} {n : Nat} (hn : ∀ p, (c p).length = n) : ∀ (l : List α) (i : Nat) (x : α), l[i]? = some x → ((l.flatMap c).drop (i * n)).take n = c x
  | [], i, x, h => by simp at h
  | y :: s, 0, x, h => by
    simp at h; subst h
    rw [Nat.zero_mul, List.drop_zero, List.flatMap_cons, List.take_append_of_le_length (by rw [hn]; exact Nat.le_refl _), List.take_of_length_le (by rw [hn]; exact Nat.le_refl _)]
  | y :: s, i + 1, x, h => by
    have ih := flat_get hn s i x (by simpa using h)
    have e : (c y ++ s.flatMap c).drop n = s.flatMap c := by rw [← hn y, List.drop_left]
    rw [List.flatMap_cons, Nat.add_mul, Nat.one_mul, Nat.add_comm, ← List.drop_drop, e]
    exact ih
theorem rowS_inj {a b : List RS} (h : rowS a = rowS b) : a = b := by
  simp only [rowS, AV.row.injEq] at h
  exact flat_inj (n := 5) (fun _ => rfl) cellsS_inj h.2
open Classical in
/-- Spots of a row. -/
noncomputable def rowSD (L M : Nat) (x : AV) : Option (List RS) := if h : ∃ l : List RS, x = rowS l ∧ (∀ p ∈ l, okS L p) ∧ l.length ≤ M then some h.choose else none
theorem rowSD_out {L M : Nat} {x : AV} {l : List RS} (h : rowSD L M x = some l) : x = rowS l ∧ (∀ p ∈ l, okS L p) ∧ l.length ≤ M := by
  unfold rowSD at h
  split at h
  · rename_i hx
    cases h
    exact hx.choose_spec
  · cases h
theorem rowSD_row {L M : Nat} {l : List RS} (h : ∀ p ∈ l, okS L p) (hl : l.length ≤ M) : rowSD L M (rowS l) = some l := by
  have hx : ∃ l' : List RS, rowS l = rowS l' ∧ (∀ p ∈ l', okS L p) ∧ l'.length ≤ M := ⟨l, rfl, h, hl⟩
  unfold rowSD
  rw [dif_pos hx, rowS_inj hx.choose_spec.1.symm]
theorem okQ.up {L L' : Nat} {r : RQ} (h : okQ L r) (hl : L ≤ L') : okQ L' r := ⟨⟨h.1.1, Nat.le_trans h.1.2 hl⟩, h.2.1, Nat.le_trans h.2.2 hl⟩
theorem okS.up {L L' : Nat} {p : RS} (h : okS L p) (hl : L ≤ L') : okS L' p := ⟨h.1.up hl, h.2.up hl⟩
theorem okQ.szI {L : Nat} {r : RQ} (h : okQ L r) : SzI (IVal r.1 r.2.1) L := SzI.val h.1.1 h.1.2
theorem okQ.szN {L : Nat} {r : RQ} (h : okQ L r) : SzN (VB 4294967296 r.2.2) L := SzN.val h.2.1 h.2.2
theorem okQ.sz {L : Nat} {r : RQ} (h : okQ L r) : SzQ (valQ r) (L + L + 1) := by
  haveI := h.szI
  haveI := h.szN
  exact (inferInstance : SzQ (mkRat (IVal r.1 r.2.1) (VB 4294967296 r.2.2)) _)
/-- A fraction in lowest terms, as it lies. -/
def ofQ (q : Rat) : RQ := (decide (q.num < 0), NB 4294967296 q.num.natAbs, NB 4294967296 q.den)
def ofP (p : P2) : RS := (ofQ p.1, ofQ p.2)
theorem valQ_of (q : Rat) : valQ (ofQ q) = q := by
  unfold valQ ofQ
  rw [VBN]
  have := IVal_can q.num
  rw [this]
  exact Rat.mkRat_self q
theorem valS_of (p : P2) : valS (ofP p) = p := by unfold valS ofP; rw [valQ_of, valQ_of]
theorem okQ_of {q : Rat} {m L : Nat} [h : SzQ q m] (hm : m ≤ L) : okQ L (ofQ q) :=
  ⟨⟨WB_NB _ _, Nat.le_trans (NB_length_le (by omega) _ m h.num) hm⟩, WB_NB _ _, Nat.le_trans (NB_length_le (by omega) _ m h.den) hm⟩
/-- The reference's spots: in lowest terms. -/
def cellsR (p : P2) : List AV := [.int .i64 p.1.num.sign, digA p.1.num.natAbs, .int .i64 (p.1.den : Int).sign, digA (p.1.den : Int).natAbs, .int .i64 p.2.num.sign, digA p.2.num.natAbs, .int .i64 (p.2.den : Int).sign, digA (p.2.den : Int).natAbs]
def rowR (l : List P2) : AV := .row l.length (l.flatMap cellsR)
theorem digA_inj {m n : Nat} (h : digA m = digA n) : m = n := by
  have := congrArg (VB 65536) (rowI_inj h)
  rwa [VB_NB (by omega), VB_NB (by omega)] at this
theorem rat_inj {p q : Rat} (h1 : p.num.sign = q.num.sign) (h2 : p.num.natAbs = q.num.natAbs) (h3 : (p.den : Int).natAbs = (q.den : Int).natAbs) : p = q := by
  have hn : p.num = q.num := by rw [← Int.sign_mul_natAbs p.num, ← Int.sign_mul_natAbs q.num, h1, h2]
  have hd : p.den = q.den := by simpa using h3
  exact Rat.ext hn hd
theorem cellsR_inj {p q : P2} (h : cellsR p = cellsR q) : p = q := by
  obtain ⟨a, b⟩ := p
  obtain ⟨c, d⟩ := q
  simp only [cellsR, List.cons.injEq, AV.int.injEq, true_and, and_true] at h
  obtain ⟨h1, h2, h3, h4, h5, h6, h7, h8⟩ := h
  rw [rat_inj h1 (digA_inj h2) (digA_inj h4), rat_inj h5 (digA_inj h6) (digA_inj h8)]
theorem rowR_inj {a b : List P2} (h : rowR a = rowR b) : a = b := by
  simp only [rowR, AV.row.injEq] at h
  exact flat_inj (n := 7) (fun _ => rfl) cellsR_inj h.2
def okP (L : Nat) (p : P2) : Prop := SzQ p.1 L ∧ SzQ p.2 L
open Classical in
noncomputable def rowRD (L M : Nat) (x : AV) : Option (List P2) := if h : ∃ l : List P2, x = rowR l ∧ (∀ p ∈ l, okP L p) ∧ l.length ≤ M then some h.choose else none
theorem rowRD_out {L M : Nat} {x : AV} {l : List P2} (h : rowRD L M x = some l) : x = rowR l ∧ (∀ p ∈ l, okP L p) ∧ l.length ≤ M := by
  unfold rowRD at h
  split at h
  · rename_i hx
    cases h
    exact hx.choose_spec
  · cases h
theorem rowRD_row {L M : Nat} {l : List P2} (h : ∀ p ∈ l, okP L p) (hl : l.length ≤ M) : rowRD L M (rowR l) = some l := by
  have hx : ∃ l' : List P2, rowR l = rowR l' ∧ (∀ p ∈ l', okP L p) ∧ l'.length ≤ M := ⟨l, rfl, h, hl⟩
  unfold rowRD
  rw [dif_pos hx, rowR_inj hx.choose_spec.1.symm]
/-- A range's round: its memory, where it goes on. -/
def rsH : Out → AS → Option (List Blk × List Bool)
  | .normal, s => some (s.heap, s.frz)
  | _, _ => none
def rsT : Out → AS → Option (List Blk × List Bool)
  | .ret, s => some (s.heap, s.frz)
  | _, _ => none
def quietC : Code → Bool
  | .skip => true
  | .region .. => true
  | .seq a b => quietC a && quietC b
  | _ => false
section
variable {E : Env} {R : Type} {rs : Out → AS → Option R} {base : Nat} {k : List Todo} {r : R}
theorem quiet_exec {N : Nat} : ∀ {a : Code} {base : Nat} {s : AS} {o : Out × AS}, quietC a = true → exec E N base a s = some o → o.1 = .normal := by
  intro a
  induction a with
  | skip => intro base s o _ h; simp only [exec, Option.some.injEq] at h; subst h; rfl
  | region id ops d =>
    intro base s o _ h
    simp only [exec] at h
    split at h
    · simp only [Option.some.injEq] at h; subst h; rfl
    · cases h
  | seq a b iha ihb =>
    intro base s o hq h
    simp only [quietC, Bool.and_eq_true] at hq
    simp only [exec] at h
    split at h
    · exact ihb hq.2 h
    · rename_i hn
      have := iha hq.1 h
      obtain ⟨o1, o2⟩ := o
      simp only at this
      subst this
      exact (hn _ h).elim
  | _ => intro base s o hq; simp [quietC] at hq
theorem round_of {a b : Code} {s : AS} {H : List Blk} {Z : List Bool} (h : AEnds E rsH base [.code a, .code b] s (H, Z)) : ∃ sA s2, AEv E base a s (.normal, sA) ∧ AEv E base b sA (.normal, s2) ∧ s2.heap = H ∧ s2.frz = Z := by
  obtain ⟨⟨o, sA⟩, h1, h2⟩ := h.means
  cases o with
  | normal =>
    obtain ⟨⟨o2, s2⟩, h3, h4⟩ := h2
    cases o2 with
    | normal =>
      simp only [Means, rsH, Option.some.injEq, Prod.mk.injEq] at h4
      exact ⟨sA, s2, h1, h3, h4.1, h4.2⟩
    | ret => simp [rsH] at h4
    | exit id => simp [Means.popM, rsH] at h4
  | ret => simp [rsH] at h2
  | exit id => simp [Means.popM, rsH] at h2
theorem last_of {a b : Code} {s : AS} {H : List Blk} {Z : List Bool} (hq : quietC a = true) (h : AEnds E rsT base [.code a, .code b] s (H, Z)) : ∃ sA s2, AEv E base a s (.normal, sA) ∧ AEv E base b sA (.ret, s2) ∧ s2.heap = H ∧ s2.frz = Z := by
  obtain ⟨⟨o, sA⟩, h1, h2⟩ := h.means
  have ho : o = .normal := by obtain ⟨n, hn⟩ := h1; exact quiet_exec hq (hn n (Nat.le_refl _))
  subst ho
  obtain ⟨⟨o2, s2⟩, h3, h4⟩ := h2
  cases o2 with
  | normal => simp [Means, rsT] at h4
  | ret =>
    simp only [rsT, Option.some.injEq, Prod.mk.injEq] at h4
    exact ⟨sA, s2, h1, h3, h4.1, h4.2⟩
  | exit id => simp [Means.popM, rsT] at h4
theorem rnd_next {a b : Code} {ps : List Tmp} {xs : List AV} {xss : List (List AV)} {o : Out × AS} {s s0 : AS} {H : List Blk} {Z : List Bool} (hs : canon base (E.keep (firstR b)) s = s0)
    (h : AEnds E rsH s0.heap.length [.code a, .code b] { s0 with tmps := putAll s0.tmps ps xs } (H, Z)) (t : ARnd E base a b ps xss { s0 with heap := H, frz := Z } o) : ARnd E base a b ps (xs :: xss) s o := by
  obtain ⟨sA, s2, ⟨n1, e1⟩, ⟨n2, e2⟩, rfl, rfl⟩ := round_of h
  obtain ⟨n3, e3⟩ := t
  subst hs
  exact ⟨n1 + n2 + n3, fun m hm => by simp only [rounds, e1 m (by omega), e2 m (by omega)]; exact e3 m (by omega)⟩
theorem rnd_stop {a b : Code} {ps : List Tmp} {xs : List AV} {xss : List (List AV)} {s s0 : AS} {H : List Blk} {Z : List Bool} (hq : quietC a = true) (hs : canon base (E.keep (firstR b)) s = s0)
    (h : AEnds E rsT s0.heap.length [.code a, .code b] { s0 with tmps := putAll s0.tmps ps xs } (H, Z)) : ARnd E base a b ps (xs :: xss) s (.ret, { s0 with heap := H, frz := Z }) := by
  obtain ⟨sA, s2, ⟨n1, e1⟩, ⟨n2, e2⟩, rfl, rfl⟩ := last_of hq h
  subst hs
  exact ⟨n1 + n2, fun m hm => by simp only [rounds, e1 m (by omega), e2 m (by omega)]⟩
theorem rnd_up {a b : Code} {ps : List Tmp} (C : Nat → AS) (D : Nat → List Blk × List Bool) (G : Nat → List AV) (M : Nat)
    (hr : ∀ i, i < M → AEnds E rsH (C i).heap.length [.code a, .code b] { C i with tmps := putAll (C i).tmps ps (G i) } (D i))
    (hc : ∀ i, i + 1 < M → canon base (E.keep (firstR b)) { C i with heap := (D i).1, frz := (D i).2 } = C (i + 1)) :
    ∀ (n i : Nat) (s : AS), i + (n + 1) = M → canon base (E.keep (firstR b)) s = C i → ARnd E base a b ps ((List.range' i (n + 1)).map G) s (.normal, { C (i + n) with heap := (D (i + n)).1, frz := (D (i + n)).2 })
  | 0, i, s, hi, hs => by
    rw [List.range'_one]
    exact rnd_next hs (hr i (by omega)) .nil
  | n + 1, i, s, hi, hs => by
    rw [List.range'_succ]
    have ih := rnd_up C D G M hr hc n (i + 1) { C i with heap := (D i).1, frz := (D i).2 } (by omega) (hc i (by omega))
    rw [show i + 1 + n = i + (n + 1) by omega] at ih
    exact rnd_next hs (hr i (by omega)) ih
theorem rnd_down {a b : Code} {ps : List Tmp} (hq : quietC a = true) (C : Nat → AS) (D : Nat → List Blk × List Bool) (G : Nat → List AV) (M : Nat) (X : List Blk × List Bool)
    (hr : ∀ i, i < M → AEnds E rsH (C i).heap.length [.code a, .code b] { C i with tmps := putAll (C i).tmps ps (G i) } (D i))
    (hc : ∀ i, i < M → canon base (E.keep (firstR b)) { C i with heap := (D i).1, frz := (D i).2 } = C (i + 1))
    (hx : AEnds E rsT (C M).heap.length [.code a, .code b] { C M with tmps := putAll (C M).tmps ps (G M) } X) :
    ∀ (m n i : Nat) (s : AS), i + n = M → canon base (E.keep (firstR b)) s = C i → ARnd E base a b ps ((List.range' i (n + 1 + m)).map G) s (.ret, { C M with heap := X.1, frz := X.2 })
  | m, 0, i, s, hi, hs => by
    have : i = M := by omega
    subst this
    rw [show 0 + 1 + m = m + 1 by omega, List.range'_succ]
    exact rnd_stop hq hs hx
  | m, n + 1, i, s, hi, hs => by
    rw [show n + 1 + 1 + m = (n + 1 + m) + 1 by omega, List.range'_succ]
    exact rnd_next hs (hr i (by omega)) (rnd_down hq C D G M X hr hc hx m n (i + 1) _ (by omega) (hc i (by omega)))
/-- A range over what is yielded, to its end. -/
theorem range_up {f : Operand} {ps : Array Tmp} {a b : Code} {g : FuncId} {cs : List AV} {s : AS} (C : Nat → AS) (D : Nat → List Blk × List Bool) (G : Nat → List AV) (N : Nat) (h1 : lookA s.tmps f = .clo g cs) (h2 : E.seq g cs = some ((List.range (N + 1)).map G)) (h3 : ∀ i, (G i).length = ps.size)
    (hs : canon base (E.keep (firstR b)) s = C 0)
    (hr : ∀ i, i < N + 1 → AEnds E rsH (C i).heap.length [.code a, .code b] { C i with tmps := putAll (C i).tmps ps.toList (G i) } (D i))
    (hc : ∀ i, i < N → canon base (E.keep (firstR b)) { C i with heap := (D i).1, frz := (D i).2 } = C (i + 1))
    (hk : AEnds E rs base k { C N with heap := (D N).1, frz := (D N).2 } r) : AEnds E rs base (.code (.rangeFunc f ps a b) :: k) s r := by
  refine .range h1 h2 (by simp [h3]) ?_ hk
  have := rnd_up (base := base) (ps := ps.toList) C D G (N + 1) hr (fun i hi => hc i (by omega)) N 0 s (by omega) hs
  rw [List.range_eq_range']
  simpa using this
theorem range_none {f : Operand} {ps : Array Tmp} {a b : Code} {g : FuncId} {cs : List AV} {s : AS} (h1 : lookA s.tmps f = .clo g cs) (h2 : E.seq g cs = some []) (hk : AEnds E rs base k s r) : AEnds E rs base (.code (.rangeFunc f ps a b) :: k) s r := .range h1 h2 rfl .nil hk
/-- A range that is left at a round. -/
theorem range_down {f : Operand} {ps : Array Tmp} {a b : Code} {g : FuncId} {cs : List AV} {s : AS} (hq : quietC a = true) (C : Nat → AS) (D : Nat → List Blk × List Bool) (G : Nat → List AV) (M N : Nat) (X : List Blk × List Bool) (hM : M < N) (h1 : lookA s.tmps f = .clo g cs) (h2 : E.seq g cs = some ((List.range N).map G)) (h3 : ∀ i, (G i).length = ps.size)
    (hs : canon base (E.keep (firstR b)) s = C 0)
    (hr : ∀ i, i < M → AEnds E rsH (C i).heap.length [.code a, .code b] { C i with tmps := putAll (C i).tmps ps.toList (G i) } (D i))
    (hc : ∀ i, i < M → canon base (E.keep (firstR b)) { C i with heap := (D i).1, frz := (D i).2 } = C (i + 1))
    (hx : AEnds E rsT (C M).heap.length [.code a, .code b] { C M with tmps := putAll (C M).tmps ps.toList (G M) } X)
    (hk : rs .ret { C M with heap := X.1, frz := X.2 } = some r) : AEnds E rs base (.code (.rangeFunc f ps a b) :: k) s r := by
  refine .rangeR h1 h2 (by simp [h3]) ?_ hk
  have := rnd_down (base := base) (ps := ps.toList) hq C D G M X hr hc hx (N - (M + 1)) M 0 s (by omega) hs
  rw [show M + 1 + (N - (M + 1)) = N by omega] at this
  rw [List.range_eq_range']
  exact this
end
/-- A spot, of fractions as they lie. -/
noncomputable def spD (L : Nat) : AV → Option ((Int × Nat) × Int × Nat)
  | .agg [a, b, c, d, e, f] => (ratP L (.agg [a, b, c])).bind fun x => (ratP L (.agg [d, e, f])).map fun y => (x, y)
  | _ => none
theorem spD_out {L : Nat} {x : AV} {a : (Int × Nat) × Int × Nat} (h : spD L x = some a) : ∃ s l m t p q, x = .agg [.bool s, rowI .u32 l, rowI .u32 m, .bool t, rowI .u32 p, rowI .u32 q] ∧ WB 4294967296 l ∧ l.length ≤ L ∧ WB 4294967296 m ∧ m.length ≤ L ∧ WB 4294967296 p ∧ p.length ≤ L ∧ WB 4294967296 q ∧ q.length ≤ L ∧ a = ((IVal s l, VB 4294967296 m), IVal t p, VB 4294967296 q) := by
  unfold spD at h
  split at h
  · obtain ⟨x, hx, h⟩ := Option.bind_eq_some_iff.1 h
    obtain ⟨y, hy, rfl⟩ := Option.map_eq_some_iff.1 h
    obtain ⟨s, l, m, e1, w, b, v, c, rfl⟩ := ratP_out hx
    obtain ⟨t, p, q, e2, w2, b2, v2, c2, rfl⟩ := ratP_out hy
    simp only [AV.agg.injEq, List.cons.injEq, and_true] at e1 e2
    obtain ⟨rfl, rfl, rfl⟩ := e1
    obtain ⟨rfl, rfl, rfl⟩ := e2
    exact ⟨s, l, m, t, p, q, rfl, w, b, v, c, w2, b2, v2, c2, rfl⟩
  · cases h
attribute [simp] spD
def spotA (x y : Rat) : AV := .agg [.bool (decide (x.num < 0)), natA x.num.natAbs, natA x.den, .bool (decide (y.num < 0)), natA y.num.natAbs, natA y.den]
attribute [simp] spotA
noncomputable def PAcr : List AV → Option AV
  | [x0, x1] => (spD 100 x0).bind fun a0 => (spD 1700 x1).bind fun a1 => some (ratA (mkRat a0.1.1 a0.1.2 * mkRat a1.2.1 a1.2.2 - mkRat a0.2.1 a0.2.2 * mkRat a1.1.1 a1.1.2))
  | _ => none
noncomputable def E_PAcr : Env := mkS [(56, RMul), (93, RSub)] [] []
theorem run_PAcr (s0 : Bool) (l0 m0 : List Int) (t0 : Bool) (p0 q0 : List Int) (wl0 : WB 4294967296 l0) (bl0 : l0.length ≤ 100) (wm0 : WB 4294967296 m0) (bm0 : m0.length ≤ 100) (wp0 : WB 4294967296 p0) (bp0 : p0.length ≤ 100) (wq0 : WB 4294967296 q0) (bq0 : q0.length ≤ 100) (s1 : Bool) (l1 m1 : List Int) (t1 : Bool) (p1 q1 : List Int) (wl1 : WB 4294967296 l1) (bl1 : l1.length ≤ 1700) (wm1 : WB 4294967296 m1) (bm1 : m1.length ≤ 1700) (wp1 : WB 4294967296 p1) (bp1 : p1.length ≤ 1700) (wq1 : WB 4294967296 q1) (bq1 : q1.length ≤ 1700) : AEnds E_PAcr (finW Try.prog Try.f59.results) 0 [.code (Try.f59.body.getD .skip)] (startA Try.f59 [.agg [.bool s0, rowI .u32 l0, rowI .u32 m0, .bool t0, rowI .u32 p0, rowI .u32 q0], .agg [.bool s1, rowI .u32 l1, rowI .u32 m1, .bool t1, rowI .u32 p1, rowI .u32 q1]] [] []) (ratA (mkRat (IVal s0 l0) (VB 4294967296 m0) * mkRat (IVal t1 p1) (VB 4294967296 q1) - mkRat (IVal t0 p0) (VB 4294967296 q0) * mkRat (IVal s1 l1) (VB 4294967296 m1))) := by
  haveI := SzI.val (neg := s0) wl0 bl0
  haveI := SzN.val wm0 bm0
  haveI := SzI.val (neg := t0) wp0 bp0
  haveI := SzN.val wq0 bq0
  haveI := SzI.val (neg := s1) wl1 bl1
  haveI := SzN.val wm1 bm1
  haveI := SzI.val (neg := t1) wp1 bp1
  haveI := SzN.val wq1 bq1
  simp only [Try.f59, Option.getD_some, startA]
  simp (maxSteps := 4000000) (disch := (first | with_reducible rfl | assumption | with_reducible exact WB_NB _ _ | (with_reducible refine nb_le ?_; omega) | (with_reducible refine nb16_le ?_; omega) | omega | (simp only [List.length_append, List.length_map, List.length_cons, List.length_nil, List.length_set, List.length_replicate, List.length_take, List.size_toArray]; omega))) [E_PAcr, -Rat.mkRat_mul_mkRat]
theorem sPAcr : GoodS (59, PAcr) := by
  intro xs r h
  simp only at h
  unfold PAcr at h
  split at h
  · obtain ⟨a0, h0, h⟩ := Option.bind_eq_some_iff.1 h
    obtain ⟨a1, h1, h⟩ := Option.bind_eq_some_iff.1 h
    cases h
    obtain ⟨s0, l0, m0, t0, p0, q0, rfl, wl0, bl0, wm0, bm0, wp0, bp0, wq0, bq0, rfl⟩ := spD_out h0
    obtain ⟨s1, l1, m1, t1, p1, q1, rfl, wl1, bl1, wm1, bm1, wp1, bp1, wq1, bq1, rfl⟩ := spD_out h1
    exact .inl <| okW_ends (mkS_ok (alls_cons sRMul (alls_cons sRSub alls_nil))) mixed Try.func59 rfl (by kernel_rfl : Fits Try.prog E_PAcr.ref E_PAcr.dep Try.f59 = true) (run_PAcr _ _ _ _ _ _ wl0 bl0 wm0 bm0 wp0 bp0 wq0 bq0 _ _ _ _ _ _ wl1 bl1 wm1 bm1 wp1 bp1 wq1 bq1)
  · cases h
attribute [simp] PAcr
noncomputable def PWay : List AV → Option AV
  | [x0, x1] => (spD 20 x0).bind fun a0 => (spD 600 x1).bind fun a1 => some (spotA (mkRat a1.1.1 a1.1.2 - mkRat a0.1.1 a0.1.2) (mkRat a1.2.1 a1.2.2 - mkRat a0.2.1 a0.2.2))
  | _ => none
noncomputable def E_PWay : Env := mkS [(93, RSub)] [] []
theorem run_PWay (s0 : Bool) (l0 m0 : List Int) (t0 : Bool) (p0 q0 : List Int) (wl0 : WB 4294967296 l0) (bl0 : l0.length ≤ 20) (wm0 : WB 4294967296 m0) (bm0 : m0.length ≤ 20) (wp0 : WB 4294967296 p0) (bp0 : p0.length ≤ 20) (wq0 : WB 4294967296 q0) (bq0 : q0.length ≤ 20) (s1 : Bool) (l1 m1 : List Int) (t1 : Bool) (p1 q1 : List Int) (wl1 : WB 4294967296 l1) (bl1 : l1.length ≤ 600) (wm1 : WB 4294967296 m1) (bm1 : m1.length ≤ 600) (wp1 : WB 4294967296 p1) (bp1 : p1.length ≤ 600) (wq1 : WB 4294967296 q1) (bq1 : q1.length ≤ 600) : AEnds E_PWay (finW Try.prog Try.f66.results) 0 [.code (Try.f66.body.getD .skip)] (startA Try.f66 [.agg [.bool s0, rowI .u32 l0, rowI .u32 m0, .bool t0, rowI .u32 p0, rowI .u32 q0], .agg [.bool s1, rowI .u32 l1, rowI .u32 m1, .bool t1, rowI .u32 p1, rowI .u32 q1]] [] []) (spotA (mkRat (IVal s1 l1) (VB 4294967296 m1) - mkRat (IVal s0 l0) (VB 4294967296 m0)) (mkRat (IVal t1 p1) (VB 4294967296 q1) - mkRat (IVal t0 p0) (VB 4294967296 q0))) := by
  haveI := SzI.val (neg := s0) wl0 bl0
  haveI := SzN.val wm0 bm0
  haveI := SzI.val (neg := t0) wp0 bp0
  haveI := SzN.val wq0 bq0
  haveI := SzI.val (neg := s1) wl1 bl1
  haveI := SzN.val wm1 bm1
  haveI := SzI.val (neg := t1) wp1 bp1
  haveI := SzN.val wq1 bq1
  simp only [Try.f66, Option.getD_some, startA]
  simp (maxSteps := 4000000) (disch := (first | with_reducible rfl | assumption | with_reducible exact WB_NB _ _ | (with_reducible refine nb_le ?_; omega) | (with_reducible refine nb16_le ?_; omega) | omega | (simp only [List.length_append, List.length_map, List.length_cons, List.length_nil, List.length_set, List.length_replicate, List.length_take, List.size_toArray]; omega))) [E_PWay, -Rat.mkRat_mul_mkRat]
theorem sPWay : GoodS (66, PWay) := by
  intro xs r h
  simp only at h
  unfold PWay at h
  split at h
  · obtain ⟨a0, h0, h⟩ := Option.bind_eq_some_iff.1 h
    obtain ⟨a1, h1, h⟩ := Option.bind_eq_some_iff.1 h
    cases h
    obtain ⟨s0, l0, m0, t0, p0, q0, rfl, wl0, bl0, wm0, bm0, wp0, bp0, wq0, bq0, rfl⟩ := spD_out h0
    obtain ⟨s1, l1, m1, t1, p1, q1, rfl, wl1, bl1, wm1, bm1, wp1, bp1, wq1, bq1, rfl⟩ := spD_out h1
    exact .inl <| okW_ends (mkS_ok (alls_cons sRSub alls_nil)) mixed Try.func66 rfl (by kernel_rfl : Fits Try.prog E_PWay.ref E_PWay.dep Try.f66 = true) (run_PWay _ _ _ _ _ _ wl0 bl0 wm0 bm0 wp0 bp0 wq0 bq0 _ _ _ _ _ _ wl1 bl1 wm1 bm1 wp1 bp1 wq1 bq1)
  · cases h
attribute [simp] PWay
noncomputable def PSides : List AV → Option AV
  | [x0] => (rowSD 9 8 x0).bind fun a0 => some (.clo 92 [.rptr [rowS a0] 0])
  | _ => none
noncomputable def E_PSides : Env := mkS [] [] []
theorem run_PSides (r0 : List RS) (b0 : ∀ p ∈ r0, okS 9 p) (c0 : r0.length ≤ 8) : AEnds E_PSides (finW Try.prog Try.f58.results) 0 [.code (Try.f58.body.getD .skip)] (startA Try.f58 [rowS r0] [] []) (.clo 92 [.rptr [rowS r0] 0]) := by
  simp only [Try.f58, Option.getD_some, startA]
  unfold rowS
  simp (maxSteps := 4000000) (disch := (first | with_reducible rfl | assumption | with_reducible exact WB_NB _ _ | (with_reducible refine nb_le ?_; omega) | (with_reducible refine nb16_le ?_; omega) | omega | (simp only [List.length_append, List.length_map, List.length_cons, List.length_nil, List.length_set, List.length_replicate, List.length_take, List.size_toArray]; omega))) [E_PSides]
theorem sPSides : GoodS (58, PSides) := by
  intro xs r h
  simp only at h
  unfold PSides at h
  split at h
  · obtain ⟨a0, h0, h⟩ := Option.bind_eq_some_iff.1 h
    cases h
    obtain ⟨rfl, b0, c0⟩ := rowSD_out h0
    exact .inl <| okW_ends (mkS_ok alls_nil) mixed Try.func58 rfl (by kernel_rfl : Fits Try.prog E_PSides.ref E_PSides.dep Try.f58 = true) (run_PSides _ b0 c0)
  · cases h
attribute [simp] PSides
end Go.Proofs.Ytofklpmlgfbmlaa.ZRat
namespace Go.Proofs.Ytofklpmlgfbmlaa.ZRat
open Go.RowKit Go.Proofs.Ytofklpmlgfbmlaa.Wd
open Go Go.Proofs.Ytofklpmlgfbmlaa.Ab Go.Proofs Go.Proofs.Ytofklpmlgfbmlaa.Num Go.Proofs.Ytofklpmlgfbmlaa.ZRatP
set_option linter.unusedSimpArgs false
set_option linter.unusedVariables false
set_option maxHeartbeats 8000000
set_option maxRecDepth 100000
def sAt (l : List RS) (i : Nat) : RS := l.getD i ((false, [], []), (false, [], []))
/-- What is yielded in a round. -/
def yldS (l : List RS) (i : Nat) : List AV := [.agg (cellsS (sAt l i)), .agg (cellsS (sAt l ((i + 1) % l.length)))]
theorem chunkS {l : List RS} {i : Nat} (h : i < l.length) : ((l.flatMap cellsS).drop (i * 6)).take 6 = cellsS (sAt l i) :=
  flat_get (c := cellsS) (n := 6) (fun _ => rfl) l i _ (by rw [sAt, List.getD_eq_getElem?_getD, List.getElem?_eq_getElem h]; rfl)
theorem pairsS (l : List RS) : pairsA 6 l.length (l.flatMap cellsS) = (List.range l.length).map (yldS l) := by
  unfold pairsA
  refine List.map_congr_left fun i hi => ?_
  have h := List.mem_range.1 hi
  have h2 : (i + 1) % l.length < l.length := Nat.mod_lt _ (by omega)
  rw [chunkS h, chunkS h2]; rfl
theorem sides_row {l : List RS} (h : l.length ≤ 8) : Ssides [.rptr [.row l.length (l.flatMap cellsS)] 0] = some ((List.range l.length).map (yldS l)) := by
  simp only [Ssides]
  rw [if_pos ⟨flat_len (c := cellsS) (n := 6) (fun _ => rfl) l, by omega⟩, pairsS]
theorem yld_len (l : List RS) (i : Nat) : (yldS l i).length = 2 := rfl
theorem sAt_ok {L : Nat} {l : List RS} (h : ∀ p ∈ l, okS L p) {i : Nat} (hi : i < l.length) : okS L (sAt l i) := by
  rw [sAt, List.getD_eq_getElem?_getD, List.getElem?_eq_getElem hi]; exact h _ (List.getElem_mem hi)
theorem pAt_val (l : List RS) {i : Nat} (hi : i < l.length) : pAt (l.map valS) i = valS (sAt l i) := by
  rw [pAt, sAt, List.getD_eq_getElem?_getD, List.getD_eq_getElem?_getD, List.getElem?_map, List.getElem?_eq_getElem hi]; rfl
theorem sum_sz {f : P2 → P2 → Rat} {l : List P2} {m : Nat} (hf : ∀ i j, i < l.length → j < l.length → SzQ (f (pAt l i) (pAt l j)) m) : ∀ i, i ≤ l.length → SzQ (sumTo f l i) ((m + 1) * i + 1)
  | 0, _ => by rw [sumTo, Nat.mul_zero, Nat.zero_add]; infer_instance
  | i + 1, h => by
    haveI := sum_sz hf i (by omega)
    haveI := hf i ((i + 1) % l.length) (by omega) (Nat.mod_lt _ (by omega))
    have e : (m + 1) * (i + 1) + 1 = (m + 1) * i + 1 + m + 1 := by rw [Nat.mul_add]; omega
    rw [sumTo, e]; infer_instance
theorem acr_sz {L : Nat} {p q : RS} (h : okS L p) (k : okS L q) : SzQ (acr (valS p) (valS q)) (L + L + 1 + (L + L + 1) + (L + L + 1 + (L + L + 1)) + 1) := by
  haveI := h.1.sz
  haveI := h.2.sz
  haveI := k.1.sz
  haveI := k.2.sz
  unfold acr valS
  infer_instance
theorem area_sz {L : Nat} {l : List RS} (h : ∀ p ∈ l, okS L p) (i : Nat) (hi : i ≤ l.length) : SzQ (sumTo acr (l.map valS) i) ((L + L + 1 + (L + L + 1) + (L + L + 1 + (L + L + 1)) + 1 + 1) * i + 1) :=
  sum_sz (fun i j hi hj => by
    rw [List.length_map] at hi hj
    rw [pAt_val l hi, pAt_val l hj]; exact acr_sz (sAt_ok h hi) (sAt_ok h hj)) i (by rw [List.length_map]; exact hi)
theorem sum_next {f : P2 → P2 → Rat} (l : List RS) {i : Nat} (hi : i < l.length) : sumTo f (l.map valS) (i + 1) = sumTo f (l.map valS) i + f (valS (sAt l i)) (valS (sAt l ((i + 1) % l.length))) := by
  rw [sumTo, List.length_map, pAt_val l hi, pAt_val l (Nat.mod_lt _ (by omega))]
noncomputable def Parea : List AV → Option AV
  | [x0] => (rowSD 9 8 x0).bind fun a0 => some (ratA (areaQ (a0.map valS)))
  | _ => none
noncomputable def E_Parea : Env := mkQ [(55, ROf), (60, RAdd), (58, PSides), (59, PAcr)] [(7, [2, 3, 4, 5])] [] [(92, Ssides)]
theorem run_Parea (r0 : List RS) (b0 : ∀ p ∈ r0, okS 9 p) (c0 : r0.length ≤ 8) : AEnds E_Parea (finW Try.prog Try.f51.results) 0 [.code (Try.f51.body.getD .skip)] (startA Try.f51 [rowS r0] [] []) (ratA (areaQ (r0.map valS))) := by
  simp only [Try.f51, Option.getD_some, startA]
  unfold rowS
  have hd : rowSD 9 8 (.row r0.length (r0.flatMap cellsS)) = some r0 := rowSD_row b0 c0
  by_cases h3 : ((r0.length : Nat) : Int) < 3
  · have e : areaQ (r0.map valS) = 0 := sum_small acr_anti _ (by rw [List.length_map]; omega)
    rw [e]
    simp (maxSteps := 4000000) (disch := (first | with_reducible rfl | assumption | with_reducible exact WB_NB _ _ | (with_reducible refine nb_le ?_; omega) | (with_reducible refine nb16_le ?_; omega) | omega | (simp only [List.length_append, List.length_map, List.length_cons, List.length_nil, List.length_set, List.length_replicate, List.length_take, List.size_toArray]; omega))) [E_Parea, hd, h3, rowS]
  · simp (maxSteps := 4000000) (disch := (first | with_reducible rfl | assumption | with_reducible exact WB_NB _ _ | (with_reducible refine nb_le ?_; omega) | (with_reducible refine nb16_le ?_; omega) | omega | (simp only [List.length_append, List.length_map, List.length_cons, List.length_nil, List.length_set, List.length_replicate, List.length_take, List.size_toArray]; omega))) [E_Parea, hd, h3, rowS]
    let C : Nat → AS := fun i => ⟨[.any, .any, .ptr 0 0, .ptr 1 0, .undef, .undef, .any, .any, .any, .any, .any, .any, .any, .any, .any, .any, .any, .any, .any, .any, .any], [.obj [.bool false, .nil, .nil], .obj [.bool (decide ((sumTo acr (r0.map valS) i).num < 0)), natA (sumTo acr (r0.map valS) i).num.natAbs, natA (sumTo acr (r0.map valS) i).den]], [false, false]⟩
    let D : Nat → List Blk × List Bool := fun i => ([.obj [.bool false, .nil, .nil], .obj [.bool (decide ((sumTo acr (r0.map valS) (i + 1)).num < 0)), natA (sumTo acr (r0.map valS) (i + 1)).num.natAbs, natA (sumTo acr (r0.map valS) (i + 1)).den], .obj (cellsS (sAt r0 i)), .obj (cellsS (sAt r0 ((i + 1) % r0.length)))], [false, false, false, false])
    refine range_up C D (yldS r0) (r0.length - 1) rfl ?_ (yld_len r0) ?_ (fun i hi => ?_) (fun i hi => ?_) ?_
    · simp (maxSteps := 4000000) (disch := (first | with_reducible rfl | assumption | with_reducible exact WB_NB _ _ | (with_reducible refine nb_le ?_; omega) | (with_reducible refine nb16_le ?_; omega) | omega | (simp only [List.length_append, List.length_map, List.length_cons, List.length_nil, List.length_set, List.length_replicate, List.length_take, List.size_toArray]; omega))) [E_Parea, sides_row c0]
    · simp only [E_Parea, firstR, mkS_keep, mkQ_keep, keepT, List.find?, Nat.reduceBEq, Option.map_some, Option.getD_some]
      simp (maxSteps := 4000000) (disch := (first | with_reducible rfl | assumption | with_reducible exact WB_NB _ _ | (with_reducible refine nb_le ?_; omega) | (with_reducible refine nb16_le ?_; omega) | omega | (simp only [List.length_append, List.length_map, List.length_cons, List.length_nil, List.length_set, List.length_replicate, List.length_take, List.size_toArray]; omega))) [E_Parea, C, sumTo]
    · have hs := sum_next (f := acr) r0 (show i < r0.length by omega)
      have o1 := sAt_ok b0 (show i < r0.length by omega)
      have o2 := sAt_ok b0 (show (i + 1) % r0.length < r0.length from Nat.mod_lt _ (by omega))
      haveI z1 := area_sz b0 i (by omega)
      simp only [C, D, yldS]
      generalize sumTo acr (r0.map valS) i = S at *
      generalize sumTo acr (r0.map valS) (i + 1) = S' at *
      subst hs
      generalize sAt r0 i = u at *
      generalize sAt r0 ((i + 1) % r0.length) = v at *
      obtain ⟨⟨s, l, m⟩, t, p, q⟩ := u
      obtain ⟨⟨s', l', m'⟩, t', p', q'⟩ := v
      obtain ⟨⟨⟨w1, x1⟩, w2, x2⟩, ⟨w3, x3⟩, w4, x4⟩ := o1
      obtain ⟨⟨⟨w5, x5⟩, w6, x6⟩, ⟨w7, x7⟩, w8, x8⟩ := o2
      simp only at w1 x1 w2 x2 w3 x3 w4 x4 w5 x5 w6 x6 w7 x7 w8 x8
      haveI := SzI.val (neg := s) w1 x1
      haveI := SzN.val w2 x2
      haveI := SzI.val (neg := t) w3 x3
      haveI := SzN.val w4 x4
      haveI := SzI.val (neg := s') w5 x5
      haveI := SzN.val w6 x6
      haveI := SzI.val (neg := t') w7 x7
      haveI := SzN.val w8 x8
      simp only [acr, valS, valQ]
      simp (maxSteps := 4000000) (disch := (first | with_reducible rfl | assumption | with_reducible exact WB_NB _ _ | (with_reducible refine nb_le ?_; omega) | (with_reducible refine nb16_le ?_; omega) | omega | (simp only [List.length_append, List.length_map, List.length_cons, List.length_nil, List.length_set, List.length_replicate, List.length_take, List.size_toArray]; omega))) [E_Parea, cellsS, rsH, putAll, -Rat.mkRat_mul_mkRat]
      all_goals rfl
    · simp only [E_Parea, firstR, mkS_keep, mkQ_keep, keepT, List.find?, Nat.reduceBEq, Option.map_some, Option.getD_some]
      simp (maxSteps := 4000000) (disch := (first | with_reducible rfl | assumption | with_reducible exact WB_NB _ _ | (with_reducible refine nb_le ?_; omega) | (with_reducible refine nb16_le ?_; omega) | omega | (simp only [List.length_append, List.length_map, List.length_cons, List.length_nil, List.length_set, List.length_replicate, List.length_take, List.size_toArray]; omega))) [E_Parea, C, D]
    · have e : r0.length - 1 + 1 = r0.length := by omega
      simp only [C, D, e]
      have hA : sumTo acr (r0.map valS) r0.length = areaQ (r0.map valS) := by unfold areaQ; rw [List.length_map]
      rw [hA]
      simp (maxSteps := 4000000) (disch := (first | with_reducible rfl | assumption | with_reducible exact WB_NB _ _ | (with_reducible refine nb_le ?_; omega) | (with_reducible refine nb16_le ?_; omega) | omega | (simp only [List.length_append, List.length_map, List.length_cons, List.length_nil, List.length_set, List.length_replicate, List.length_take, List.size_toArray]; omega))) [E_Parea]
theorem sParea : GoodS (51, Parea) := by
  intro xs r h
  simp only at h
  unfold Parea at h
  split at h
  · obtain ⟨a0, h0, h⟩ := Option.bind_eq_some_iff.1 h
    cases h
    obtain ⟨rfl, b0, c0⟩ := rowSD_out h0
    exact .inl <| okW_ends (mkQ_ok (alls_cons sROf (alls_cons sRAdd (alls_cons sPSides (alls_cons sPAcr alls_nil)))) (qs_one sSides)) mixed Try.func51 rfl (by kernel_rfl : Fits Try.prog E_Parea.ref E_Parea.dep Try.f51 = true) (run_Parea _ b0 c0)
  · cases h
attribute [simp] Parea
end Go.Proofs.Ytofklpmlgfbmlaa.ZRat
namespace Go.Proofs.Ytofklpmlgfbmlaa.ZRat
open Go.RowKit Go.Proofs.Ytofklpmlgfbmlaa.Wd
open Go Go.Proofs.Ytofklpmlgfbmlaa.Ab Go.Proofs Go.Proofs.Ytofklpmlgfbmlaa.Num Go.Proofs.Ytofklpmlgfbmlaa.ZRatP
set_option linter.unusedSimpArgs false
set_option linter.unusedVariables false
set_option maxHeartbeats 8000000
set_option maxRecDepth 100000
theorem momX_sz {L : Nat} {p q : RS} (h : okS L p) (k : okS L q) : SzQ (momX (valS p) (valS q)) (L + L + 1 + (L + L + 1) + 1 + (L + L + 1 + (L + L + 1) + (L + L + 1 + (L + L + 1)) + 1)) := by
  haveI := acr_sz h k
  haveI : SzQ (valS p).1 _ := h.1.sz
  haveI : SzQ (valS q).1 _ := k.1.sz
  unfold momX
  infer_instance
theorem momY_sz {L : Nat} {p q : RS} (h : okS L p) (k : okS L q) : SzQ (momY (valS p) (valS q)) (L + L + 1 + (L + L + 1) + 1 + (L + L + 1 + (L + L + 1) + (L + L + 1 + (L + L + 1)) + 1)) := by
  haveI := acr_sz h k
  haveI : SzQ (valS p).2 _ := h.2.sz
  haveI : SzQ (valS q).2 _ := k.2.sz
  unfold momY
  infer_instance
theorem sum_szS {L m : Nat} {f : P2 → P2 → Rat} {l : List RS} (hf : ∀ p q, okS L p → okS L q → SzQ (f (valS p) (valS q)) m) (h : ∀ p ∈ l, okS L p) (i : Nat) (hi : i ≤ l.length) : SzQ (sumTo f (l.map valS) i) ((m + 1) * i + 1) :=
  sum_sz (fun i j hi hj => by
    rw [List.length_map] at hi hj
    rw [pAt_val l hi, pAt_val l hj]; exact hf _ _ (sAt_ok h hi) (sAt_ok h hj)) i (by rw [List.length_map]; exact hi)
/-- A polygon's center of weight. -/
def centQ (l : List P2) : P2 := (sumX l / (3 * areaQ l), sumY l / (3 * areaQ l))
noncomputable def PArea2 : List AV → Option AV
  | [x0] => (rowSD 9 8 x0).bind fun a0 => some (ratA (areaQ (a0.map valS)))
  | _ => none
noncomputable def E_PArea2 : Env := mkS [(51, Parea)] [] []
theorem run_PArea2 (r0 : List RS) (b0 : ∀ p ∈ r0, okS 9 p) (c0 : r0.length ≤ 8) : AEnds E_PArea2 (finW Try.prog Try.f19.results) 0 [.code (Try.f19.body.getD .skip)] (startA Try.f19 [rowS r0] [] []) (ratA (areaQ (r0.map valS))) := by
  simp only [Try.f19, Option.getD_some, startA]
  have hd : rowSD 9 8 (.row r0.length (r0.flatMap cellsS)) = some r0 := rowSD_row b0 c0
  unfold rowS
  haveI hz : SzQ (areaQ (r0.map valS)) (78 * 8 + 1) := by
    have h := area_sz b0 r0.length (Nat.le_refl _)
    unfold areaQ
    rw [List.length_map]
    exact h.up (by omega)
  simp (maxSteps := 4000000) (disch := (first | with_reducible rfl | assumption | with_reducible exact WB_NB _ _ | (with_reducible refine nb_le ?_; omega) | (with_reducible refine nb16_le ?_; omega) | omega | (simp only [List.length_append, List.length_map, List.length_cons, List.length_nil, List.length_set, List.length_replicate, List.length_take, List.size_toArray]; omega))) [E_PArea2, hd]
theorem sPArea2 : GoodS (19, PArea2) := by
  intro xs r h
  simp only at h
  unfold PArea2 at h
  split at h
  · obtain ⟨a0, h0, h⟩ := Option.bind_eq_some_iff.1 h
    cases h
    obtain ⟨rfl, b0, c0⟩ := rowSD_out h0
    exact .inl <| okW_ends (mkS_ok (alls_cons sParea alls_nil)) mixed Try.func19 rfl (by kernel_rfl : Fits Try.prog E_PArea2.ref E_PArea2.dep Try.f19 = true) (run_PArea2 _ b0 c0)
  · cases h
attribute [simp] PArea2
noncomputable def PCent : List AV → Option AV
  | [x0] => (rowSD 9 8 x0).bind fun a0 => some (if areaQ (a0.map valS) = 0 then .tup [spotA 0 0, .bool false] else .tup [spotA (centQ (a0.map valS)).1 (centQ (a0.map valS)).2, .bool true])
  | _ => none
noncomputable def E_PCent : Env := mkQ [(55, ROf), (51, Parea), (56, RMul), (57, RSign), (58, PSides), (59, PAcr), (60, RAdd), (61, RDiv)] [(8, [2, 3, 4, 5, 6, 7, 8])] [] [(92, Ssides)]
theorem run_PCent (r0 : List RS) (b0 : ∀ p ∈ r0, okS 9 p) (c0 : r0.length ≤ 8) : AEnds E_PCent (finW Try.prog Try.f23.results) 0 [.code (Try.f23.body.getD .skip)] (startA Try.f23 [rowS r0] [] []) (if areaQ (r0.map valS) = 0 then .tup [spotA 0 0, .bool false] else .tup [spotA (centQ (r0.map valS)).1 (centQ (r0.map valS)).2, .bool true]) := by
  simp only [Try.f23, Option.getD_some, startA]
  unfold rowS
  have hd : rowSD 9 8 (.row r0.length (r0.flatMap cellsS)) = some r0 := rowSD_row b0 c0
  haveI hz : SzQ (areaQ (r0.map valS)) (78 * 8 + 1) := by
    have h := area_sz b0 r0.length (Nat.le_refl _)
    unfold areaQ
    rw [List.length_map]
    exact h.up (by omega)
  have hsm : r0.length < 3 → areaQ (r0.map valS) = 0 := fun h => sum_small acr_anti _ (by rw [List.length_map]; omega)
  simp only [centQ]
  have m3 : mkRat 3 1 = 3 := by decide +kernel
  haveI : SzQ (3 : Rat) 1 := ⟨by decide, by decide⟩
  generalize hA : areaQ (r0.map valS) = A at *
  by_cases h0 : A = 0
  · rw [if_pos h0]
    have hn : A.num = 0 := by rw [h0]; rfl
    subst h0
    simp (maxSteps := 4000000) (disch := (first | with_reducible rfl | assumption | with_reducible exact WB_NB _ _ | (with_reducible refine nb_le ?_; omega) | (with_reducible refine nb16_le ?_; omega) | omega | (simp only [List.length_append, List.length_map, List.length_cons, List.length_nil, List.length_set, List.length_replicate, List.length_take, List.size_toArray]; omega))) [E_PCent, hd, hA, m3, rowS, Rat.mul_zero, -Rat.mkRat_mul_mkRat]
  · rw [if_neg h0]
    have hB : ¬ 3 * A = 0 := by rw [Rat.mul_eq_zero]; exact fun h => h.elim (by decide) h0
    have hBn : ¬ (3 * A).num = 0 := by rw [Rat.num_eq_zero]; exact hB
    generalize hBB : 3 * A = B at *
    haveI : SzQ B (1 + (78 * 8 + 1)) := by rw [← hBB]; infer_instance
    simp (maxSteps := 4000000) (disch := (first | with_reducible rfl | assumption | with_reducible exact WB_NB _ _ | (with_reducible refine nb_le ?_; omega) | (with_reducible refine nb16_le ?_; omega) | omega | (simp only [List.length_append, List.length_map, List.length_cons, List.length_nil, List.length_set, List.length_replicate, List.length_take, List.size_toArray]; omega))) [E_PCent, hd, hA, hBB, hB, hBn, m3, rowS, -Rat.mkRat_mul_mkRat]
    let C : Nat → AS := fun i => ⟨[.any, .any, .ptr 0 0, .bool false, .ptr 1 0, .ptr 2 0, .ptr 3 0, .undef, .undef, .any, .any, .any, .any, .any, .any, .any, .any, .any, .any, .any, .any, .any, .any, .any, .any, .any, .any, .any, .any, .any, .any, .any, .any, .any, .any, .any, .any, .any, .any, .any, .any, .any, .any, .any, .any, .any, .any, .any, .any, .any, .any, .any, .any, .any, .any, .any, .any, .any, .any, .any, .any, .any], [.obj [.bool false, .nil, .nil, .bool false, .nil, .nil], .obj [.bool (decide ((sumTo momX (r0.map valS) i).num < 0)), natA (sumTo momX (r0.map valS) i).num.natAbs, natA (sumTo momX (r0.map valS) i).den], .obj [.bool (decide ((sumTo momY (r0.map valS) i).num < 0)), natA (sumTo momY (r0.map valS) i).num.natAbs, natA (sumTo momY (r0.map valS) i).den], .obj [.bool (decide ((B).num < 0)), natA (B).num.natAbs, natA (B).den]], [false, false, false, false]⟩
    let D : Nat → List Blk × List Bool := fun i => ([.obj [.bool false, .nil, .nil, .bool false, .nil, .nil], .obj [.bool (decide ((sumTo momX (r0.map valS) (i + 1)).num < 0)), natA (sumTo momX (r0.map valS) (i + 1)).num.natAbs, natA (sumTo momX (r0.map valS) (i + 1)).den], .obj [.bool (decide ((sumTo momY (r0.map valS) (i + 1)).num < 0)), natA (sumTo momY (r0.map valS) (i + 1)).num.natAbs, natA (sumTo momY (r0.map valS) (i + 1)).den], .obj [.bool (decide ((B).num < 0)), natA (B).num.natAbs, natA (B).den], .obj (cellsS (sAt r0 i)), .obj (cellsS (sAt r0 ((i + 1) % r0.length))), .obj [.bool (decide ((acr (valS (sAt r0 i)) (valS (sAt r0 ((i + 1) % r0.length)))).num < 0)), natA (acr (valS (sAt r0 i)) (valS (sAt r0 ((i + 1) % r0.length)))).num.natAbs, natA (acr (valS (sAt r0 i)) (valS (sAt r0 ((i + 1) % r0.length)))).den]], [false, false, false, false, false, false, false])
    have h3 : 3 ≤ r0.length := Nat.le_of_not_lt fun h => h0 (hsm h)
    have eX : sumTo momX (r0.map valS) r0.length = sumX (r0.map valS) := by unfold sumX; rw [List.length_map]
    have eY : sumTo momY (r0.map valS) r0.length = sumY (r0.map valS) := by unfold sumY; rw [List.length_map]
    have sX := sum_szS (fun _ _ => momX_sz) b0
    have sY := sum_szS (fun _ _ => momY_sz) b0
    have nX := @sum_next momX r0
    have nY := @sum_next momY r0
    refine range_up C D (yldS r0) (r0.length - 1) rfl ?_ (yld_len r0) ?_ (fun i hi => ?_) (fun i hi => ?_) ?_
    · simp (maxSteps := 4000000) (disch := (first | with_reducible rfl | assumption | with_reducible exact WB_NB _ _ | (with_reducible refine nb_le ?_; omega) | (with_reducible refine nb16_le ?_; omega) | omega | (simp only [List.length_append, List.length_map, List.length_cons, List.length_nil, List.length_set, List.length_replicate, List.length_take, List.size_toArray]; omega))) [E_PCent, sides_row c0]
    · simp only [E_PCent, firstR, mkS_keep, mkQ_keep, keepT, List.find?, Nat.reduceBEq, Option.map_some, Option.getD_some]
      simp (maxSteps := 4000000) (disch := (first | with_reducible rfl | assumption | with_reducible exact WB_NB _ _ | (with_reducible refine nb_le ?_; omega) | (with_reducible refine nb16_le ?_; omega) | omega | (simp only [List.length_append, List.length_map, List.length_cons, List.length_nil, List.length_set, List.length_replicate, List.length_take, List.size_toArray]; omega))) [E_PCent, C, sumTo]
    · have hs := nX (show i < r0.length by omega)
      have ht := nY (show i < r0.length by omega)
      have o1 := sAt_ok b0 (show i < r0.length by omega)
      have o2 := sAt_ok b0 (show (i + 1) % r0.length < r0.length from Nat.mod_lt _ (by omega))
      haveI z1 := sX i (by omega)
      haveI z2 := sY i (by omega)
      simp only [C, D, yldS]
      generalize sumTo momX (r0.map valS) i = S at *
      generalize sumTo momX (r0.map valS) (i + 1) = S' at *
      generalize sumTo momY (r0.map valS) i = T at *
      generalize sumTo momY (r0.map valS) (i + 1) = T' at *
      subst hs ht
      clear C D sX sY nX nY eX eY hsm
      generalize sAt r0 i = u at *
      generalize sAt r0 ((i + 1) % r0.length) = v at *
      obtain ⟨⟨s, l, m⟩, t, p, q⟩ := u
      obtain ⟨⟨⟨wa, xa⟩, wb, xb⟩, ⟨wc, xc⟩, wd, xd⟩ := o1
      simp only at wa xa wb xb wc xc wd xd
      haveI := SzI.val (neg := s) wa xa
      haveI := SzN.val wb xb
      haveI := SzI.val (neg := t) wc xc
      haveI := SzN.val wd xd
      obtain ⟨⟨s', l', m'⟩, t', p', q'⟩ := v
      obtain ⟨⟨⟨wa', xa'⟩, wb', xb'⟩, ⟨wc', xc'⟩, wd', xd'⟩ := o2
      simp only at wa' xa' wb' xb' wc' xc' wd' xd'
      haveI := SzI.val (neg := s') wa' xa'
      haveI := SzN.val wb' xb'
      haveI := SzI.val (neg := t') wc' xc'
      haveI := SzN.val wd' xd'
      simp only [momX, momY, acr, valS, valQ]
      simp (maxSteps := 4000000) (disch := (first | with_reducible rfl | assumption | with_reducible exact WB_NB _ _ | (with_reducible refine nb_le ?_; omega) | (with_reducible refine nb16_le ?_; omega) | omega | (simp only [List.length_append, List.length_map, List.length_cons, List.length_nil, List.length_set, List.length_replicate, List.length_take, List.size_toArray]; omega))) [E_PCent, cellsS, rsH, putAll, -Rat.mkRat_mul_mkRat]
      all_goals exact ⟨rfl, rfl, rfl⟩
    · simp only [E_PCent, firstR, mkS_keep, mkQ_keep, keepT, List.find?, Nat.reduceBEq, Option.map_some, Option.getD_some]
      simp (maxSteps := 4000000) (disch := (first | with_reducible rfl | assumption | with_reducible exact WB_NB _ _ | (with_reducible refine nb_le ?_; omega) | (with_reducible refine nb16_le ?_; omega) | omega | (simp only [List.length_append, List.length_map, List.length_cons, List.length_nil, List.length_set, List.length_replicate, List.length_take, List.size_toArray]; omega))) [E_PCent, C, D]
    · have e : r0.length - 1 + 1 = r0.length := by omega
      haveI z1 := sX r0.length (by omega)
      haveI z2 := sY r0.length (by omega)
      simp only [C, D, e, eX, eY] at z1 z2 ⊢
      generalize sumX (r0.map valS) = S at *
      generalize sumY (r0.map valS) = T at *
      simp (maxSteps := 4000000) (disch := (first | with_reducible rfl | assumption | with_reducible exact WB_NB _ _ | (with_reducible refine nb_le ?_; omega) | (with_reducible refine nb16_le ?_; omega) | omega | (simp only [List.length_append, List.length_map, List.length_cons, List.length_nil, List.length_set, List.length_replicate, List.length_take, List.size_toArray]; omega))) [E_PCent, hB, hBn]
theorem sPCent : GoodS (23, PCent) := by
  intro xs r h
  simp only at h
  unfold PCent at h
  split at h
  · obtain ⟨a0, h0, h⟩ := Option.bind_eq_some_iff.1 h
    cases h
    obtain ⟨rfl, b0, c0⟩ := rowSD_out h0
    exact .inl <| okW_ends (mkQ_ok (alls_cons sROf (alls_cons sParea (alls_cons sRMul (alls_cons sRSign (alls_cons sPSides (alls_cons sPAcr (alls_cons sRAdd (alls_cons sRDiv alls_nil)))))))) (qs_one sSides)) mixed Try.func23 rfl (by kernel_rfl : Fits Try.prog E_PCent.ref E_PCent.dep Try.f23 = true) (run_PCent _ b0 c0)
  · cases h
attribute [simp] PCent
end Go.Proofs.Ytofklpmlgfbmlaa.ZRat
namespace Go.Proofs.Ytofklpmlgfbmlaa.ZRat
open Go.RowKit Go.Proofs.Ytofklpmlgfbmlaa.Wd
open Go Go.Proofs.Ytofklpmlgfbmlaa.Ab Go.Proofs Go.Proofs.Ytofklpmlgfbmlaa.Num Go.Proofs.Ytofklpmlgfbmlaa.ZRatP
set_option linter.unusedSimpArgs false
set_option linter.unusedVariables false
set_option maxHeartbeats 8000000
set_option maxRecDepth 100000
/-- Whether a spot lies to the right of no side, up to some side. -/
def leftB (l : List P2) (s : P2) : Nat → Bool
  | 0 => true
  | i + 1 => leftB l s i && decide (¬ (tri (pAt l i) (pAt l ((i + 1) % l.length)) s).num < 0)
def insideB (l : List P2) (s : P2) : Bool := leftB l s l.length && decide (3 ≤ l.length)
/-- The first side that a spot lies to the right of. -/
theorem leftB_first {l : List P2} {s : P2} : ∀ {n : Nat}, leftB l s n = false → ∃ j, j < n ∧ (∀ i, i < j → ¬ (tri (pAt l i) (pAt l ((i + 1) % l.length)) s).num < 0) ∧ (tri (pAt l j) (pAt l ((j + 1) % l.length)) s).num < 0
  | 0, h => by simp [leftB] at h
  | n + 1, h => by
    simp only [leftB, Bool.and_eq_false_iff, decide_eq_false_iff_not, Decidable.not_not] at h
    by_cases hn : leftB l s n = false
    · obtain ⟨j, h1, h2, h3⟩ := leftB_first hn
      exact ⟨j, by omega, h2, h3⟩
    · refine ⟨n, by omega, ?_, h.resolve_left hn⟩
      have ht : leftB l s n = true := by simpa using hn
      have : ∀ {m : Nat}, leftB l s m = true → ∀ i, i < m → ¬ (tri (pAt l i) (pAt l ((i + 1) % l.length)) s).num < 0 := by
        intro m
        induction m with
        | zero => intro _ i hi; omega
        | succ m ih =>
          intro h i hi
          simp only [leftB, Bool.and_eq_true, decide_eq_true_eq] at h
          rcases Nat.lt_or_ge i m with q | q
          · exact ih h.1 i q
          · have : i = m := by omega
            subst this; exact h.2
      exact this ht
theorem leftB_all {l : List P2} {s : P2} : ∀ {m : Nat}, leftB l s m = true → ∀ i, i < m → ¬ (tri (pAt l i) (pAt l ((i + 1) % l.length)) s).num < 0 := by
  intro m
  induction m with
  | zero => intro _ i hi; omega
  | succ m ih =>
    intro h i hi
    simp only [leftB, Bool.and_eq_true, decide_eq_true_eq] at h
    rcases Nat.lt_or_ge i m with q | q
    · exact ih h.1 i q
    · have : i = m := by omega
      subst this; exact h.2
theorem tri_val (l : List RS) (s : P2) {i : Nat} (hi : i < l.length) : tri (pAt (l.map valS) i) (pAt (l.map valS) ((i + 1) % (l.map valS).length)) s = tri (valS (sAt l i)) (valS (sAt l ((i + 1) % l.length))) s := by
  rw [List.length_map, pAt_val l hi, pAt_val l (Nat.mod_lt _ (by omega))]
theorem sign_nn {z : Int} (h : ¬ z < 0) : ¬ z.sign < 0 := by rw [sign_lt]; exact h
theorem sign_nn' {z : Int} (h : z < 0) : z.sign < 0 := by rw [sign_lt]; exact h
noncomputable def PInside : List AV → Option AV
  | [x0, x1] => (rowSD 9 8 x0).bind fun a0 => (spD 500 x1).bind fun a1 => some (.bool (insideB (a0.map valS) (mkRat a1.1.1 a1.1.2, mkRat a1.2.1 a1.2.2)))
  | _ => none
noncomputable def E_PInside : Env := mkQ [(58, PSides), (66, PWay), (59, PAcr), (57, RSign)] [(4, [0, 3, 4, 5, 6])] [] [(92, Ssides)]
theorem run_PInside (r0 : List RS) (b0 : ∀ p ∈ r0, okS 9 p) (c0 : r0.length ≤ 8) (s1 : Bool) (l1 m1 : List Int) (t1 : Bool) (p1 q1 : List Int) (wl1 : WB 4294967296 l1) (bl1 : l1.length ≤ 500) (wm1 : WB 4294967296 m1) (bm1 : m1.length ≤ 500) (wp1 : WB 4294967296 p1) (bp1 : p1.length ≤ 500) (wq1 : WB 4294967296 q1) (bq1 : q1.length ≤ 500) : AEnds E_PInside (finW Try.prog Try.f27.results) 0 [.code (Try.f27.body.getD .skip)] (startA Try.f27 [rowS r0, .agg [.bool s1, rowI .u32 l1, rowI .u32 m1, .bool t1, rowI .u32 p1, rowI .u32 q1]] [] []) (.bool (insideB (r0.map valS) (mkRat (IVal s1 l1) (VB 4294967296 m1), mkRat (IVal t1 p1) (VB 4294967296 q1)))) := by
  haveI := SzI.val (neg := s1) wl1 bl1
  haveI := SzN.val wm1 bm1
  haveI := SzI.val (neg := t1) wp1 bp1
  haveI := SzN.val wq1 bq1
  simp only [Try.f27, Option.getD_some, startA]
  unfold rowS
  have hd : rowSD 9 8 (.row r0.length (r0.flatMap cellsS)) = some r0 := rowSD_row b0 c0
  simp (maxSteps := 4000000) (disch := (first | with_reducible rfl | assumption | with_reducible exact WB_NB _ _ | (with_reducible refine nb_le ?_; omega) | (with_reducible refine nb16_le ?_; omega) | omega | (simp only [List.length_append, List.length_map, List.length_cons, List.length_nil, List.length_set, List.length_replicate, List.length_take, List.size_toArray]; omega))) [E_PInside, hd, rowS, -Rat.mkRat_mul_mkRat]
  let C : Nat → AS := fun i => ⟨[.row r0.length (r0.flatMap cellsS), .any, .any, .ptr 0 0, .ptr 1 0, .undef, .undef, .any, .any, .any, .any, .any, .any, .any, .any, .any, .any, .any, .any, .any, .any, .any, .any], [.obj [.bool s1, rowI .u32 l1, rowI .u32 m1, .bool t1, rowI .u32 p1, rowI .u32 q1], .obj [.bool false]], [false, false]⟩
  let D : Nat → List Blk × List Bool := fun i => ([.obj [.bool s1, rowI .u32 l1, rowI .u32 m1, .bool t1, rowI .u32 p1, rowI .u32 q1], .obj [.bool false], .obj (cellsS (sAt r0 i)), .obj (cellsS (sAt r0 ((i + 1) % r0.length)))], [false, false, false, false])
  have hno : ∀ i, i < r0.length → ¬ (tri (pAt (r0.map valS) i) (pAt (r0.map valS) ((i + 1) % (r0.map valS).length)) (mkRat (IVal s1 l1) (VB 4294967296 m1), mkRat (IVal t1 p1) (VB 4294967296 q1))).num < 0 → ¬ (tri (valS (sAt r0 i)) (valS (sAt r0 ((i + 1) % r0.length))) (mkRat (IVal s1 l1) (VB 4294967296 m1), mkRat (IVal t1 p1) (VB 4294967296 q1))).num.sign < 0 := fun i hi h => by rw [tri_val r0 _ hi] at h; exact sign_nn h
  by_cases hL : leftB (r0.map valS) (mkRat (IVal s1 l1) (VB 4294967296 m1), mkRat (IVal t1 p1) (VB 4294967296 q1)) r0.length = false
  · obtain ⟨j, hj, hj1, hj2⟩ := leftB_first hL
    have hI : insideB (r0.map valS) (mkRat (IVal s1 l1) (VB 4294967296 m1), mkRat (IVal t1 p1) (VB 4294967296 q1)) = false := by unfold insideB; rw [List.length_map, hL]; rfl
    rw [hI]
    refine range_down (by rfl) C D (yldS r0) j r0.length (D j) hj rfl ?_ (yld_len r0) ?_ (fun i hi => ?_) (fun i hi => ?_) ?_ ?_
    · simp (maxSteps := 4000000) (disch := (first | with_reducible rfl | assumption | with_reducible exact WB_NB _ _ | (with_reducible refine nb_le ?_; omega) | (with_reducible refine nb16_le ?_; omega) | omega | (simp only [List.length_append, List.length_map, List.length_cons, List.length_nil, List.length_set, List.length_replicate, List.length_take, List.size_toArray]; omega))) [E_PInside, sides_row c0]
    · simp only [E_PInside, firstR, mkS_keep, mkQ_keep, keepT, List.find?, Nat.reduceBEq, Option.map_some, Option.getD_some]
      simp (maxSteps := 4000000) (disch := (first | with_reducible rfl | assumption | with_reducible exact WB_NB _ _ | (with_reducible refine nb_le ?_; omega) | (with_reducible refine nb16_le ?_; omega) | omega | (simp only [List.length_append, List.length_map, List.length_cons, List.length_nil, List.length_set, List.length_replicate, List.length_take, List.size_toArray]; omega))) [E_PInside, C]
    · have hs := hno i (by omega) (hj1 i hi)
      have o1 := sAt_ok b0 (show i < r0.length by omega)
      have o2 := sAt_ok b0 (show (i + 1) % r0.length < r0.length from Nat.mod_lt _ (by omega))
      simp only [C, D, yldS]
      clear C D hno
      generalize sAt r0 i = u at *
      generalize sAt r0 ((i + 1) % r0.length) = v at *
      obtain ⟨⟨s, l, m⟩, t, p, q⟩ := u
      obtain ⟨⟨⟨wa, xa⟩, wb, xb⟩, ⟨wc, xc⟩, wd, xd⟩ := o1
      simp only at wa xa wb xb wc xc wd xd
      haveI := SzI.val (neg := s) wa xa
      haveI := SzN.val wb xb
      haveI := SzI.val (neg := t) wc xc
      haveI := SzN.val wd xd
      obtain ⟨⟨s', l', m'⟩, t', p', q'⟩ := v
      obtain ⟨⟨⟨wa', xa'⟩, wb', xb'⟩, ⟨wc', xc'⟩, wd', xd'⟩ := o2
      simp only at wa' xa' wb' xb' wc' xc' wd' xd'
      haveI := SzI.val (neg := s') wa' xa'
      haveI := SzN.val wb' xb'
      haveI := SzI.val (neg := t') wc' xc'
      haveI := SzN.val wd' xd'
      simp only [tri, valS, valQ] at hs
      simp (maxSteps := 4000000) (disch := (first | with_reducible rfl | assumption | with_reducible exact WB_NB _ _ | (with_reducible refine nb_le ?_; omega) | (with_reducible refine nb16_le ?_; omega) | omega | (simp only [List.length_append, List.length_map, List.length_cons, List.length_nil, List.length_set, List.length_replicate, List.length_take, List.size_toArray]; omega))) [E_PInside, hs, cellsS, rsH, rsT, putAll, -Rat.mkRat_mul_mkRat]
    · simp only [E_PInside, firstR, mkS_keep, mkQ_keep, keepT, List.find?, Nat.reduceBEq, Option.map_some, Option.getD_some]
      simp (maxSteps := 4000000) (disch := (first | with_reducible rfl | assumption | with_reducible exact WB_NB _ _ | (with_reducible refine nb_le ?_; omega) | (with_reducible refine nb16_le ?_; omega) | omega | (simp only [List.length_append, List.length_map, List.length_cons, List.length_nil, List.length_set, List.length_replicate, List.length_take, List.size_toArray]; omega))) [E_PInside, C, D]
    · rw [tri_val r0 _ hj] at hj2
      have hs := sign_nn' hj2
      have hi := hj
      clear hj1 hL
      generalize j = i at *
      have o1 := sAt_ok b0 (show i < r0.length by omega)
      have o2 := sAt_ok b0 (show (i + 1) % r0.length < r0.length from Nat.mod_lt _ (by omega))
      simp only [C, D, yldS]
      clear C D hno
      generalize sAt r0 i = u at *
      generalize sAt r0 ((i + 1) % r0.length) = v at *
      obtain ⟨⟨s, l, m⟩, t, p, q⟩ := u
      obtain ⟨⟨⟨wa, xa⟩, wb, xb⟩, ⟨wc, xc⟩, wd, xd⟩ := o1
      simp only at wa xa wb xb wc xc wd xd
      haveI := SzI.val (neg := s) wa xa
      haveI := SzN.val wb xb
      haveI := SzI.val (neg := t) wc xc
      haveI := SzN.val wd xd
      obtain ⟨⟨s', l', m'⟩, t', p', q'⟩ := v
      obtain ⟨⟨⟨wa', xa'⟩, wb', xb'⟩, ⟨wc', xc'⟩, wd', xd'⟩ := o2
      simp only at wa' xa' wb' xb' wc' xc' wd' xd'
      haveI := SzI.val (neg := s') wa' xa'
      haveI := SzN.val wb' xb'
      haveI := SzI.val (neg := t') wc' xc'
      haveI := SzN.val wd' xd'
      simp only [tri, valS, valQ] at hs
      simp (maxSteps := 4000000) (disch := (first | with_reducible rfl | assumption | with_reducible exact WB_NB _ _ | (with_reducible refine nb_le ?_; omega) | (with_reducible refine nb16_le ?_; omega) | omega | (simp only [List.length_append, List.length_map, List.length_cons, List.length_nil, List.length_set, List.length_replicate, List.length_take, List.size_toArray]; omega))) [E_PInside, hs, cellsS, rsH, rsT, putAll, -Rat.mkRat_mul_mkRat]
    · simp only [C, D]
      simp (maxSteps := 4000000) (disch := (first | with_reducible rfl | assumption | with_reducible exact WB_NB _ _ | (with_reducible refine nb_le ?_; omega) | (with_reducible refine nb16_le ?_; omega) | omega | (simp only [List.length_append, List.length_map, List.length_cons, List.length_nil, List.length_set, List.length_replicate, List.length_take, List.size_toArray]; omega))) [E_PInside]
  · have hL' : leftB (r0.map valS) (mkRat (IVal s1 l1) (VB 4294967296 m1), mkRat (IVal t1 p1) (VB 4294967296 q1)) r0.length = true := by simpa using hL
    have hI : insideB (r0.map valS) (mkRat (IVal s1 l1) (VB 4294967296 m1), mkRat (IVal t1 p1) (VB 4294967296 q1)) = decide (3 ≤ r0.length) := by unfold insideB; rw [List.length_map, hL', Bool.true_and]
    rw [hI]
    by_cases h0 : r0.length = 0
    · refine range_none rfl ?_ ?_
      · simp (maxSteps := 4000000) (disch := (first | with_reducible rfl | assumption | with_reducible exact WB_NB _ _ | (with_reducible refine nb_le ?_; omega) | (with_reducible refine nb16_le ?_; omega) | omega | (simp only [List.length_append, List.length_map, List.length_cons, List.length_nil, List.length_set, List.length_replicate, List.length_take, List.size_toArray]; omega))) [E_PInside, sides_row c0]
        exact List.length_eq_zero_iff.1 h0
      · simp (maxSteps := 4000000) (disch := (first | with_reducible rfl | assumption | with_reducible exact WB_NB _ _ | (with_reducible refine nb_le ?_; omega) | (with_reducible refine nb16_le ?_; omega) | omega | (simp only [List.length_append, List.length_map, List.length_cons, List.length_nil, List.length_set, List.length_replicate, List.length_take, List.size_toArray]; omega))) [E_PInside, h0]
    · have ha := leftB_all hL'
      refine range_up C D (yldS r0) (r0.length - 1) rfl ?_ (yld_len r0) ?_ (fun i hi => ?_) (fun i hi => ?_) ?_
      · simp (maxSteps := 4000000) (disch := (first | with_reducible rfl | assumption | with_reducible exact WB_NB _ _ | (with_reducible refine nb_le ?_; omega) | (with_reducible refine nb16_le ?_; omega) | omega | (simp only [List.length_append, List.length_map, List.length_cons, List.length_nil, List.length_set, List.length_replicate, List.length_take, List.size_toArray]; omega))) [E_PInside, sides_row c0]
      · simp only [E_PInside, firstR, mkS_keep, mkQ_keep, keepT, List.find?, Nat.reduceBEq, Option.map_some, Option.getD_some]
        simp (maxSteps := 4000000) (disch := (first | with_reducible rfl | assumption | with_reducible exact WB_NB _ _ | (with_reducible refine nb_le ?_; omega) | (with_reducible refine nb16_le ?_; omega) | omega | (simp only [List.length_append, List.length_map, List.length_cons, List.length_nil, List.length_set, List.length_replicate, List.length_take, List.size_toArray]; omega))) [E_PInside, C]
      · have hs := hno i (by omega) (ha i (by omega))
        have o1 := sAt_ok b0 (show i < r0.length by omega)
        have o2 := sAt_ok b0 (show (i + 1) % r0.length < r0.length from Nat.mod_lt _ (by omega))
        simp only [C, D, yldS]
        clear C D hno
        generalize sAt r0 i = u at *
        generalize sAt r0 ((i + 1) % r0.length) = v at *
        obtain ⟨⟨s, l, m⟩, t, p, q⟩ := u
        obtain ⟨⟨⟨wa, xa⟩, wb, xb⟩, ⟨wc, xc⟩, wd, xd⟩ := o1
        simp only at wa xa wb xb wc xc wd xd
        haveI := SzI.val (neg := s) wa xa
        haveI := SzN.val wb xb
        haveI := SzI.val (neg := t) wc xc
        haveI := SzN.val wd xd
        obtain ⟨⟨s', l', m'⟩, t', p', q'⟩ := v
        obtain ⟨⟨⟨wa', xa'⟩, wb', xb'⟩, ⟨wc', xc'⟩, wd', xd'⟩ := o2
        simp only at wa' xa' wb' xb' wc' xc' wd' xd'
        haveI := SzI.val (neg := s') wa' xa'
        haveI := SzN.val wb' xb'
        haveI := SzI.val (neg := t') wc' xc'
        haveI := SzN.val wd' xd'
        simp only [tri, valS, valQ] at hs
        simp (maxSteps := 4000000) (disch := (first | with_reducible rfl | assumption | with_reducible exact WB_NB _ _ | (with_reducible refine nb_le ?_; omega) | (with_reducible refine nb16_le ?_; omega) | omega | (simp only [List.length_append, List.length_map, List.length_cons, List.length_nil, List.length_set, List.length_replicate, List.length_take, List.size_toArray]; omega))) [E_PInside, hs, cellsS, rsH, rsT, putAll, -Rat.mkRat_mul_mkRat]
      · simp only [E_PInside, firstR, mkS_keep, mkQ_keep, keepT, List.find?, Nat.reduceBEq, Option.map_some, Option.getD_some]
        simp (maxSteps := 4000000) (disch := (first | with_reducible rfl | assumption | with_reducible exact WB_NB _ _ | (with_reducible refine nb_le ?_; omega) | (with_reducible refine nb16_le ?_; omega) | omega | (simp only [List.length_append, List.length_map, List.length_cons, List.length_nil, List.length_set, List.length_replicate, List.length_take, List.size_toArray]; omega))) [E_PInside, C, D]
      · simp only [C, D]
        by_cases h3 : 3 ≤ r0.length
        · have h3' : (3 : Int) ≤ (r0.length : Int) := by omega
          simp (maxSteps := 4000000) (disch := (first | with_reducible rfl | assumption | with_reducible exact WB_NB _ _ | (with_reducible refine nb_le ?_; omega) | (with_reducible refine nb16_le ?_; omega) | omega | (simp only [List.length_append, List.length_map, List.length_cons, List.length_nil, List.length_set, List.length_replicate, List.length_take, List.size_toArray]; omega))) [E_PInside, h3, h3']
        · have h3' : ¬ (3 : Int) ≤ (r0.length : Int) := by omega
          simp (maxSteps := 4000000) (disch := (first | with_reducible rfl | assumption | with_reducible exact WB_NB _ _ | (with_reducible refine nb_le ?_; omega) | (with_reducible refine nb16_le ?_; omega) | omega | (simp only [List.length_append, List.length_map, List.length_cons, List.length_nil, List.length_set, List.length_replicate, List.length_take, List.size_toArray]; omega))) [E_PInside, h3, h3']
theorem sPInside : GoodS (27, PInside) := by
  intro xs r h
  simp only at h
  unfold PInside at h
  split at h
  · obtain ⟨a0, h0, h⟩ := Option.bind_eq_some_iff.1 h
    obtain ⟨a1, h1, h⟩ := Option.bind_eq_some_iff.1 h
    cases h
    obtain ⟨rfl, b0, c0⟩ := rowSD_out h0
    obtain ⟨s1, l1, m1, t1, p1, q1, rfl, wl1, bl1, wm1, bm1, wp1, bp1, wq1, bq1, rfl⟩ := spD_out h1
    exact .inl <| okW_ends (mkQ_ok (alls_cons sPSides (alls_cons sPWay (alls_cons sPAcr (alls_cons sRSign alls_nil)))) (qs_one sSides)) mixed Try.func27 rfl (by kernel_rfl : Fits Try.prog E_PInside.ref E_PInside.dep Try.f27 = true) (run_PInside _ b0 c0 _ _ _ _ _ _ wl1 bl1 wm1 bm1 wp1 bp1 wq1 bq1)
  · cases h
attribute [simp] PInside
end Go.Proofs.Ytofklpmlgfbmlaa.ZRat
