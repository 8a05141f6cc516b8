/- Stores, slices made and cut, conversions. -/
import Derived.Test.YtpbaloceljfaoaaAbA
import Derived.Lib.ConvBytes
import Derived.Laws.IdiomStrings
import Derived.Carry
import Derived.MapKept
import Derived.WideKeyRuns
import Derived.RangeFuncSeq
import Derived.Laws.ByValue
import Derived.Laws.Small
set_option linter.unusedVariables false
set_option linter.unusedSimpArgs false
namespace Go.Proofs.Ytpbaloceljfaoaa.Ab
open Go
set_option linter.unusedSimpArgs false
set_option linter.unusedVariables false
section
variable {K S : Nat → Prop} {w : World} {ρ : Nat → Loc} {P : Program} {E : Env} {h : List Blk} {z : List Bool} {lk : Operand → AV} {ev : Operand → Value} {g : Nat → Option Blk} {fz : Nat → Bool} {slot : Nat} {o : Oper} {e : Eff}

theorem lay_list : ∀ (vs : List Value) (cur : Array Value) (o : Nat), o + vs.length ≤ cur.size → (cur.toList.take o ++ vs ++ cur.toList.drop (o + vs.length)).toArray = lay cur o vs := by
  intro vs cur o hl
  apply Array.ext_getElem?
  intro j
  rw [lay_get _ _ _ _ hl, List.getElem?_toArray, List.append_assoc, List.getElem?_append]
  simp only [List.length_take, Array.length_toList]
  rw [show min o cur.size = o by omega]
  by_cases h1 : j < o
  · rw [if_pos h1, if_neg (by omega), List.getElem?_take, if_pos h1]; simp
  · rw [if_neg h1, List.getElem?_append]
    by_cases h2 : j < o + vs.length
    · rw [if_pos (by omega), if_pos ⟨by omega, h2⟩]
    · rw [if_neg (by omega), if_neg (by omega), List.getElem?_drop, show o + vs.length + (j - o - vs.length) = j by omega]; simp

/-- A store: of as many cells as the variable has. -/
theorem run_store_lay {t : TypeId} {v : Value} {b off : Nat} {ccs : Array Value} {ty : TypeId} {n : Nat} {a : Bool} (hk : kindT P t = some (n, a)) (hn : v.cells.size = n) (hb : w.heap[b]? = some (.cells ccs ty (0, 0)))
    (hl : off + n ≤ ccs.size) (h1 : ∀ u ∈ v.cells.toList, u.oneCell' = true) : (storeVar t ⟨b, off, none⟩ v).run P w = .ok () (w.setRow b (lay ccs off v.cells.toList)) := by
  obtain ⟨hok, hn', ha⟩ := kindT_spec hk
  obtain ⟨i, z0, g1, g2, g3, g4, g5, g6, g7⟩ := okT_spec hok
  have hst := run_storeCells_at P b off ty v.cells.toList 0 ccs w hb (by simp; omega) h1
  rw [Nat.add_zero, lay_list _ _ _ (by simp; omega)] at hst
  simp only [storeVar, Sem.run_bind, run_size g1, Result.andThen_ok]
  rw [if_neg (by omega)]
  exact hst

theorem Done.write (C : Ctx E P K ρ S h z w lk ev g fz) {f : List Nat} {id b : Nat} {ccs ccs' : Array Value} {ty : TypeId} {x : Blk} {r : AV} {v : Value} (hi : ρ id = .at b ccs.size) (hz : z.getD id false = false) (hf : id ∉ f)
    (hb : w.heap[b]? = some (.cells ccs ty (0, 0))) (hs : ccs'.size = ccs.size)
    (hx : BR (Sf S ρ f) (w.setRow b ccs') ρ (.at b ccs.size) (some x)) (hv : V3 ρ (Sf S ρ f) (w.setRow b ccs') r v) : Done K ρ S h z w ⟨r, [(id, x)], f⟩ v (w.setRow b ccs') := by
  obtain ⟨H1, X1⟩ := C.mem.freeze f
  have hz' : (frzAll z f).getD id false = false := by rw [frzAll_not f z id hf]; exact hz
  obtain ⟨H2, X2⟩ := H1.write (w' := w.setRow b ccs') hi hz' hs (by simp) (fun k hk => setRow_other w b k _ hk) (setRow_heap w b ccs ccs' ty _ hb) rfl rfl rfl hx
  exact ⟨_, _, X1.trans X2, H2, hv⟩

theorem op_store (C : Ctx E P K ρ S h z w lk ev g fz) {t : TypeId} {x y : Operand} (ho : o.op = .store t x y) (he : eff E lk g fz slot o.op = some e) : OpGoal P K ρ S h z w ev o e := by
  rw [ho] at he; simp only [eff, C.eP] at he
  have hx := C.look x
  have hy := C.look y
  unfold OpGoal execOp; simp only [ho]
  split at he
  · rename_i id off e1
    rw [e1] at hx
    split at he
    · rename_i hfz
      have hz : z.getD id false = false := C.frz id (by simpa using hfz)
      have hv := v1_of hx (by simp) (by simp) (by simp) (by simp)
      simp only [V1] at hv
      split at he
      · rename_i cs hg
        cases hc : (lk y).cells with
        | none => simp [hc] at he
        | some vs =>
          simp only [hc] at he
          split at he
          · rename_i hl
            simp only [Option.some.injEq] at he; subst he
            obtain ⟨b, ccs, ty, hq, hb, hcs⟩ := C.obj hg
            rw [hq] at hv; simp only at hv
            have hcy := cells_of hy hc
            obtain ⟨⟨n, a⟩, hk, hn⟩ := Option.map_eq_some_iff.1 hl.1
            simp only at hn
            have hcl := size_le hcs
            have hr := run_store_lay (w := w) (off := off) hk (by rw [hn]; exact hcy.1.symm) hb (by omega) (CR.one hcy)
            simp only [hv, Instr.storeAt, Instr.sureAddr, Sem.run_bind, Sem.run_pure, Result.andThen_ok, hr]
            refine Done.write C hq hz (by simp) hb (lay_size _ _ _) ⟨b, _, ty, by rw [lay_size], setRow_heap w b ccs _ ty _ hb, ?_⟩ (by simp only [V3, V2])
            have hS : ∀ k, S k → (w.setRow b (lay ccs off (ev y).cells.toList)).heap[k]? = w.heap[k]? := fun k hk => setRow_other w b k _ fun q => by subst q; exact C.mem.own _ _ _ hq hz hk
            exact CR.lay (fun j c hj => let ⟨v, a, d⟩ := hcs j c hj; ⟨v, a, d.mono (fun _ h => .inl h) hS (fun _ => .inr (.inl rfl))⟩)
              ⟨by simpa using hcy.1, fun j c hj => let ⟨v, a, d⟩ := hcy.2 j c hj; ⟨v, by simpa using a, d.mono (fun _ h => .inl h) hS (fun _ => .inr (.inl rfl))⟩⟩ hl.2 (by omega)
          · cases he
      · rename_i cs hg
        cases hc : reify g (lk y) with
        | none => simp [hc] at he
        | some p =>
          obtain ⟨r, f⟩ := p
          simp only [hc] at he
          cases hc' : r.cells with
          | none => simp [hc'] at he
          | some vs =>
            simp only [hc'] at he
            split at he
            · rename_i hl
              simp only [Option.some.injEq] at he; subst he
              rcases C.arr hg with ⟨hq, _⟩ | ⟨b, ccs, ty, hq, hb, hcs⟩
              · rw [hq] at hv; exact hv.elim
              rw [hq] at hv; simp only at hv
              have hcy := cells_of (reify_sound C hc hy).v3 hc'
              obtain ⟨⟨n, a⟩, hk, hn⟩ := Option.map_eq_some_iff.1 hl.1
              simp only at hn
              have hcl := size_le hcs
              have hr := run_store_lay (w := w) (off := off) hk (by rw [hn]; exact hcy.1.symm) hb (by omega) (CR.one hcy)
              simp only [hv, Instr.storeAt, Instr.sureAddr, Sem.run_bind, Sem.run_pure, Result.andThen_ok, hr]
              have hid : id ∉ f := by simpa using hl.2.2
              have hS : ∀ k, Sf S ρ f k → (w.setRow b (lay ccs off (ev y).cells.toList)).heap[k]? = w.heap[k]? := fun k hk => setRow_other w b k _ fun q => by
                subst q
                rcases hk with hk | ⟨i, hi, m, hm⟩
                · exact C.mem.own _ _ _ hq hz hk
                · exact hid (C.mem.inj _ _ _ _ _ hm hq ▸ hi)
              refine Done.write C hq hz hid hb (lay_size _ _ _) (.inr ⟨b, _, ty, by rw [lay_size], setRow_heap w b ccs _ ty _ hb, ?_⟩) (by simp only [V3, V2])
              exact CR.lay (fun j c hj => let ⟨v, a, d⟩ := hcs j c hj; ⟨v, a, P1.mono (fun _ h => h) hS _ _ (P1.mono (fun _ h => .inl h) (fun _ _ => rfl) _ _ d)⟩)
                ⟨by simpa using hcy.1, fun j c hj => let ⟨v, a, d⟩ := hcy.2 j c hj; ⟨v, by simpa using a, P1.mono (fun _ h => h) hS _ _ d.pure⟩⟩ hl.2.1 (by omega)
            · cases he
      · cases he
    · cases he
  · cases he

theorem op_makeSlice (C : Ctx E P K ρ S h z w lk ev g fz) (hs : h[slot]? = some .dead) {t : TypeId} {x y : Operand} (ho : o.op = .makeSlice t x y) (he : eff E lk g fz slot o.op = some e) : OpGoal P K ρ S h z w ev o e := by
  rw [ho] at he; simp only [eff, C.eP] at he
  have hx := C.look x
  have hy := C.look y
  unfold OpGoal execOp; simp only [ho]
  split at he
  · rename_i el sz bytes zz k l k' c ht e1 e2
    rw [e1] at hx; rw [e2] at hy
    split at he
    · rename_i hl
      simp only [Option.some.injEq] at he; subst he
      obtain ⟨hl0, hlc, hbytes, hc⟩ := hl
      obtain ⟨hu, i, z0, h1, h2, h3, h4, h5, h6, h7, rfl⟩ := td_slice ht
      have hr := run_make (P := P) w t el i z0 hu h1 h2 k k' l c hl0 hlc (by
        rw [h6]
        have : ((c.toNat * bytes : Nat) : Int) ≤ (maxMem : Nat) := by exact_mod_cast hbytes
        rw [Int.natCast_mul, Int.toNat_of_nonneg (by omega)] at this
        rw [Int.mul_comm]; simp only [maxMem] at this; omega) (by simp only [maxSize] at hc; omega)
      simp only [int_of hx, int_of hy, Sem.run_bind, hr, Result.andThen_ok, Sem.run_pure]
      have hm := made_of (S := Sf S ρ []) (w := w.alloc (.cells (madeCells z0.cells (c.toNat * i.size)) el)) (z0 := z0.cells) (l := l.toNat) (c := c.toNat) (by omega) h7 (by omega)
      refine Done.new C hs (ccs := madeCells z0.cells (c.toNat * i.size)) (ty := el) _ rfl (fun ρ' _ => .inr ⟨w.heap.size, _, el, rfl, heap_alloc_new w _, ?_⟩) (fun ρ' hr => ?_)
      · have e : i.size = z0.cells.size := h4.trans h3.symm
        intro j d hj
        obtain ⟨v, a, q⟩ := hm j d hj
        refine ⟨v, ?_, q⟩
        rw [e]; exact a
      · simp only [V3, V2, V1, hr]
        exact ⟨0, c.toNat, rfl, by omega, by simp [size_madeCells, h4], .inl rfl⟩
    · cases he
  · cases he
theorem bound_of (C : Ctx E P K ρ S h z w lk ev g fz) {d top r : Nat} {x : Option Operand} (hb : bound lk d top x = some r) : (x = none ∧ r = d) ∨ ∃ q k n, x = some q ∧ ev q = .int k n ∧ 0 ≤ n ∧ n ≤ (top : Int) ∧ r = n.toNat := by
  cases x with
  | none => simp only [bound, Option.some.injEq] at hb; exact .inl ⟨rfl, hb.symm⟩
  | some q =>
    simp only [bound] at hb
    have hq := C.look q
    split at hb
    · rename_i k n e1
      rw [e1] at hq
      split at hb
      · rename_i hn; simp only [Option.some.injEq] at hb; exact .inr ⟨q, k, n, rfl, int_of hq, hn.1, hn.2, hb.symm⟩
      · cases hb
    · cases hb
/-- The bounds of a cut, of which no third is given. -/
theorem run_bounds (C : Ctx E P K ρ S h z w lk ev g fz) {isS : Bool} {n cap hh ll : Nat} {lo hi : Option Operand} (hn : n ≤ cap) (h1 : bound lk n n hi = some hh) (h2 : bound lk 0 hh lo = some ll) :
    (Instr.sliceBounds isS n cap (lo.map ev) (hi.map ev) none).run P w = .ok (ll, hh, cap) w ∧ ll ≤ hh ∧ hh ≤ n := by
  rcases bound_of C h1 with ⟨rfl, rfl⟩ | ⟨q, k, m, rfl, hq, ha, hb, rfl⟩ <;> rcases bound_of C h2 with ⟨rfl, rfl⟩ | ⟨q', k', m', rfl, hq', ha', hb', rfl⟩
  · exact ⟨by simp only [Instr.sliceBounds, Option.map_none, Sem.run_bind, Sem.run_pure, Result.andThen_ok], by omega, by omega⟩
  · refine ⟨?_, by omega, by omega⟩
    simp only [Instr.sliceBounds, Option.map_none, Option.map_some, hq', Instr.sliceBound, asIntOf, Sem.run_bind, Sem.run_pure, Result.andThen_ok, if_pos (⟨ha', hb'⟩ : 0 ≤ m' ∧ m' ≤ (hh : Int))]
  · refine ⟨?_, by omega, by omega⟩
    simp only [Instr.sliceBounds, Option.map_none, Option.map_some, hq, Instr.sliceBound, asIntOf, Sem.run_bind, Sem.run_pure, Result.andThen_ok, if_pos (⟨ha, by omega⟩ : 0 ≤ m ∧ m ≤ (cap : Int))]
  · refine ⟨?_, by omega, by omega⟩
    simp only [Instr.sliceBounds, Option.map_none, Option.map_some, hq, hq', Instr.sliceBound, asIntOf, Sem.run_bind, Sem.run_pure, Result.andThen_ok, if_pos (⟨ha, by omega⟩ : 0 ≤ m ∧ m ≤ (cap : Int)), if_pos (⟨ha', hb'⟩ : 0 ≤ m' ∧ m' ≤ (m.toNat : Int))]

theorem op_slice (C : Ctx E P K ρ S h z w lk ev g fz) {t : TypeId} {x : Operand} {lo hi mx : Option Operand} (ho : o.op = .slice t x lo hi mx) (he : eff E lk g fz slot o.op = some e) : OpGoal P K ρ S h z w ev o e := by
  rw [ho] at he; simp only [eff, C.eP] at he
  have hx := C.look x
  unfold OpGoal execOp; simp only [ho]
  split at he
  -- a text
  · rename_i b e1
    rw [e1] at hx
    split at he
    · rename_i ht
      cases h1 : bound lk b.size b.size hi with
      | none => simp [h1] at he
      | some hh =>
        simp only [h1] at he
        cases h2 : bound lk 0 hh lo with
        | none => simp [h2] at he
        | some ll =>
          simp only [h2, pur, Option.some.injEq] at he; subst he
          have hb := (run_bounds C (isS := false) (Nat.le_refl _) h1 h2).1
          have hu := td_str ht
          simp only [Instr.sliceAt, Instr.slice, Sem.run_bind, run_underlying hu, Result.andThen_ok, str_of hx, Option.map_none, Option.isSome_none, Bool.false_eq_true, if_false, Sem.run_pure, hb]
          exact Done.pure C (by simp only [V3, V2, V1, P1])
    · cases he
  -- a slice of the call's own
  · rename_i id off n sz' e1
    rw [e1] at hx
    split at he
    · rename_i el sz bytes zz ht
      cases h1 : bound lk n n hi with
      | none => simp [h1] at he
      | some hh =>
        simp only [h1] at he
        cases h2 : bound lk 0 hh lo with
        | none => simp [h2] at he
        | some ll =>
          simp only [h2] at he
          split at he
          · rename_i hsz; subst hsz
            simp only [pur, Option.some.injEq] at he; subst he
            obtain ⟨hu, i, z0, g1, g2, g3, g4, g5, g6, g7, rfl⟩ := td_slice ht
            have hv := v1_of hx (by simp) (by simp) (by simp) (by simp)
            obtain ⟨a, cap, hs, hn, hq⟩ := hv.own_shape
            obtain ⟨hb, hlh, hhn⟩ := run_bounds C (isS := true) hn h1 h2
            simp only [Instr.sliceAt, Instr.slice, Sem.run_bind, run_underlying hu, Result.andThen_ok, hs, Option.map_none, hb, run_size g1, g4, Sem.run_pure]
            refine Done.pure C (V2.v3 (V1.v2 ?_))
            simp only [V1] at hv ⊢
            cases hr : ρ id with
            | free => rw [hr] at hv; exact hv.elim
            | virt =>
              rw [hr] at hv
              obtain ⟨rfl, a', hs'⟩ := hv
              rw [hs] at hs'; cases hs'
              have : ll = 0 := by omega
              subst this
              exact ⟨by omega, a, by simp; omega⟩
            | gone =>
              refine ⟨_, cap - ll, rfl, by omega, ?_⟩
              by_cases hc : hh - ll = 0
              · exact .inl hc
              · obtain ⟨b, rfl⟩ := hq.resolve_left (by omega)
                exact .inr ⟨b, by rw [if_neg (by omega)]; simp [Addr_add]⟩
            | «at» b size =>
              rw [hr] at hv
              obtain ⟨o', cap', hs', h1', h2', h3'⟩ := hv
              rw [hs] at hs'; cases hs'
              by_cases hc : cap = ll
              · refine ⟨o', 0, by rw [if_pos hc]; simp; omega, by omega, ?_, .inr ⟨by omega, rfl⟩⟩
                have := Nat.zero_le (cap * sz'); omega
              · refine ⟨o' + ll * sz', cap - ll, by rw [if_neg hc]; simp [Addr_add], by omega, ?_, ?_⟩
                · have : ll * sz' + (cap - ll) * sz' = cap * sz' := by rw [← Nat.add_mul]; congr 1; omega
                  omega
                · rcases h3' with rfl | ⟨h3, h4⟩
                  · exact .inl rfl
                  · omega
          · cases he
    · cases he
  -- a stable slice
  · rename_i n cs e1
    rw [e1] at hx
    split at he
    · rename_i el sz bytes zz ht
      cases h1 : bound lk n n hi with
      | none => simp [h1] at he
      | some hh =>
        simp only [h1] at he
        cases h2 : bound lk 0 hh lo with
        | none => simp [h2] at he
        | some ll =>
          simp only [h2, pur, Option.some.injEq] at he; subst he
          obtain ⟨hu, i, z0, g1, g2, g3, g4, g5, g6, g7, rfl⟩ := td_slice ht
          obtain ⟨a, cap, hs, hn, hq⟩ := row_of hx
          obtain ⟨hb, hlh, hhn⟩ := run_bounds C (isS := true) hn h1 h2
          simp only [Instr.sliceAt, Instr.slice, Sem.run_bind, run_underlying hu, Result.andThen_ok, hs, Option.map_none, hb, run_size g1, g4, Sem.run_pure]
          refine Done.pure C (V2.v3 (V1.v2 (P1.v1 ?_)))
          simp only [P1]
          refine ⟨_, cap - ll, rfl, by omega, ?_⟩
          by_cases hc : hh - ll = 0
          · exact .inl ⟨hc, by simp [hc]⟩
          · obtain ⟨b, o', rfl, hS, hcs⟩ := hq.resolve_left (by omega)
            refine .inr ⟨b, o' + ll * sz, by rw [if_neg (by omega)]; simp [Addr_add], hS, PC.of fun j c hj => ?_⟩
            rw [List.getElem?_take] at hj
            split at hj
            · rw [List.getElem?_drop] at hj
              have := hcs.get hj
              rwa [show o' + ll * sz + j = o' + (ll * sz + j) by omega]
            · cases hj
    · cases he
  -- nil
  · rename_i e1
    rw [e1] at hx
    split at he
    · rename_i el sz bytes zz ht
      split at he
      · rename_i hh ll h1 h2
        simp only [pur, Option.some.injEq] at he; subst he
        obtain ⟨hu, i, z0, g1, g2, g3, g4, g5, g6, g7, rfl⟩ := td_slice ht
        have h1' : hh = 0 := by rcases bound_of C h1 with ⟨_, q⟩ | ⟨_, _, _, _, _, _, _, q⟩ <;> omega
        subst h1'
        obtain ⟨hb, hlh, hhn⟩ := run_bounds C (isS := true) (n := 0) (cap := 0) (Nat.le_refl _) h1 h2
        have hll : ll = 0 := by omega
        subst hll
        simp only [Instr.sliceAt, Instr.slice, Sem.run_bind, run_underlying hu, Result.andThen_ok, nil_of hx, Option.map_none, hb, run_size g1, g4, Sem.run_pure]
        exact Done.pure C (by simp only [V3, V2, V1, P1]; rfl)
      · cases he
    · cases he
  -- an array's address
  · rename_i id off e1
    rw [e1] at hx
    split at he
    · rename_i n sz size zz ag ht
      cases h1 : bound lk n n hi with
      | none => simp [h1] at he
      | some hh =>
        simp only [h1] at he
        cases h2 : bound lk 0 hh lo with
        | none => simp [h2] at he
        | some ll =>
          simp only [h2] at he
          split at he
          · rename_i cs hg
            split at he
            · rename_i hl
              simp only [pur, Option.some.injEq] at he; subst he
              obtain ⟨el, i, z0, ie, ze, hu, _, _, _, _, _, _, _, g1, _, g3, g4, g5, g6⟩ := td_array ht
              have hv := v1_of hx (by simp) (by simp) (by simp) (by simp)
              simp only [V1] at hv
              obtain ⟨hb, hlh, hhn⟩ := run_bounds C (isS := false) (Nat.le_refl n) h1 h2
              rcases C.arr hg with ⟨hq, _⟩ | ⟨b, ccs, ty, hq, hb', hcs⟩
              · rw [hq] at hv; exact hv.elim
              rw [hq] at hv; simp only at hv
              have hcl := size_le hcs
              simp only [hv, Instr.sliceAt, Instr.sureAddr, Sem.run_bind, run_underlying hu, Result.andThen_ok, Option.map_none, hb, run_size g1, g3, Sem.run_pure]
              refine Done.pure C (V2.v3 (V1.v2 ?_))
              simp only [V1, hq]
              by_cases hc : n = ll
              · refine ⟨off, 0, by rw [if_pos hc]; simp; omega, by omega, ?_, .inr ⟨by omega, rfl⟩⟩
                have := Nat.zero_le (n * sz); omega
              · refine ⟨off + ll * sz, n - ll, by rw [if_neg hc]; simp [Addr_add], by omega, ?_, .inl rfl⟩
                have : ll * sz + (n - ll) * sz = n * sz := by rw [← Nat.add_mul]; congr 1; omega
                omega
            · cases he
          · cases he
    · cases he
  · cases he
end
/- Conversions, lengths, appends. -/
section
variable {K S : Nat → Prop} {w : World} {ρ : Nat → Loc} {P : Program} {E : Env} {h : List Blk} {z : List Bool} {lk : Operand → AV} {ev : Operand → Value} {g : Nat → Option Blk} {fz : Nat → Bool} {slot : Nat} {o : Oper} {e : Eff}

/-- A later world: what was there is there, and more may be stable. -/
structure ExtV (S S' : Nat → Prop) (w w' : World) : Prop where
  os : w'.os = w.os
  tape : w'.tape = w.tape
  output : w'.output = w.output
  size : w.heap.size ≤ w'.heap.size
  old : ∀ b, b < w.heap.size → w'.heap[b]? = w.heap[b]?
  ss : ∀ b, S b → S' b
  new : ∀ b, S' b → S b ∨ w.heap.size ≤ b
  sb : ∀ b, S' b → b < w'.heap.size
theorem Heap.later (H : Heap K ρ S h z w) {S' : Nat → Prop} {w' : World} (X : ExtV S S' w w') : Heap K ρ S' h z w' ∧ Ext K S S' ρ ρ w w' := by
  refine ⟨⟨fun id => (H.blk id).mono X.ss (fun b hb => X.old b (H.sb b hb)) (fun _ => .inr (.inl rfl)) (fun b n hb => X.old b (H.lt hb).1), H.inj, H.ok, fun id b n hb hz hs => ?_, H.zl, X.sb, fun b hb => Nat.lt_of_lt_of_le (H.kb b hb) X.size⟩,
    ⟨X.os, X.tape, X.output, X.size, fun b hb => X.old b (H.kb b hb), X.ss, fun b hb => ?_, fun b hb => X.old b (H.sb b hb), fun _ => .inr (.inl rfl)⟩⟩
  · rcases X.new b hs with q | q
    · exact H.own id b n hb hz q
    · have := (H.lt hb).1; omega
  · rcases X.new b hb with q | q
    · exact .inl q
    · exact .inr fun k => by have := H.kb b k; omega

theorem isBytes_of : ∀ {cs : List AV} {ns : List Int}, isBytes cs = some ns → cs = ns.map (.int .u8)
  | [], bs, hb => by simp only [isBytes, Option.some.injEq] at hb; subst hb; rfl
  | c :: r, bs, hb => by
    have ⟨n, hc⟩ : ∃ n, c = .int .u8 n := by
      unfold isBytes at hb
      split at hb
      · rename_i q; cases q
      · rename_i n r' q; cases q; exact ⟨n, rfl⟩
      · cases hb
    subst hc
    simp only [isBytes, Option.map_eq_some_iff] at hb
    obtain ⟨bs', h1, rfl⟩ := hb
    rw [isBytes_of h1]; rfl
theorem foldl_push_ints : ∀ (l : List Int) (r : ByteArray), l.foldl (fun r n => r.push (UInt8.ofNat n.toNat)) r = ⟨r.data ++ (l.map fun n => UInt8.ofNat n.toNat).toArray⟩
  | [], r => by simp
  | b :: l, r => by
    simp only [List.foldl_cons, List.map_cons]
    rw [foldl_push_ints l]
    simp [ByteArray.push]

theorem op_convert (C : Ctx E P K ρ S h z w lk ev g fz) {s d : TypeId} {x : Operand} (ho : o.op = .convert s d x) (he : eff E lk g fz slot o.op = some e) : OpGoal P K ρ S h z w ev o e := by
  rw [ho] at he; simp only [eff, C.eP] at he
  have hx := C.look x
  unfold OpGoal execOp; simp only [ho]
  split at he
  · rename_i k0 k k' n e1 e2 e3
    rw [e3] at hx
    simp only [pur, Option.some.injEq] at he; subst he
    simp only [convert, Sem.run_bind, run_underlying (td_int e1), run_underlying (td_int e2), Result.andThen_ok, int_of hx, Conv.intToInt, Sem.run_pure]
    exact Done.pure C (by simp only [V3, V2, V1, P1])
  · rename_i b e1 e2 e3
    rw [e3] at hx
    simp only [pur, Option.some.injEq] at he; subst he
    simp only [convert, Sem.run_bind, run_underlying (td_str e1), run_underlying (td_str e2), Result.andThen_ok, str_of hx, Sem.run_pure]
    exact Done.pure C (by simp only [V3, V2, V1, P1])
  · rename_i el sz bytes zz b e1 e2 e3
    rw [e3] at hx
    split at he
    · rename_i hel
      split at he
      · rename_i hsz
        simp only [pur, Option.some.injEq] at he; subst he
        obtain ⟨hu, i, z0, h1, h2, h3, h4, h5, h6, h7, rfl⟩ := td_slice e2
        have hr := Lib.run_convert_string_bytes w s d el b (td_str e1) hu (td_int hel)
        simp only [str_of hx, Sem.run_bind, hr, Result.andThen_ok, Sem.run_pure]
        let S' : Nat → Prop := fun k => S k ∨ k = w.heap.size
        have X : ExtV S S' w (Lib.bytesWorld w el b) := by
          refine ⟨rfl, rfl, rfl, by rw [Lib.bytesWorld_size]; omega, fun k hk => Lib.bytesWorld_at_old w el b k hk, fun _ q => .inl q, fun k q => ?_, fun k q => ?_⟩
          · rcases q with q | q
            · exact .inl q
            · exact .inr (by omega)
          · rw [Lib.bytesWorld_size]
            rcases q with q | q
            · have := C.mem.sb k q; omega
            · omega
        obtain ⟨H, X'⟩ := C.mem.later X
        refine ⟨ρ, S', X', H, V2.v3 (V1.v2 (P1.v1 ?_))⟩
        simp only [P1]
        refine ⟨_, _, rfl, grownCap_ge w b.size 0 el, .inr ⟨w.heap.size, 0, rfl, .inr rfl, PC.of fun j c hj => ?_⟩⟩
        rw [List.getElem?_map] at hj
        cases hc : b.data.toList[j]? with
        | none => simp [hc] at hj
        | some q =>
          simp only [hc, Option.map_some, Option.some.injEq] at hj; subst hj
          have hjl : j < b.size := by have := (List.getElem?_eq_some_iff.1 hc).1; simpa using this
          refine ⟨_, by rw [Nat.zero_add]; exact Lib.bytesWorld_cell w el b j hjl, ?_⟩
          simp only [P1, List.getD_eq_getElem?_getD, hc, Option.getD_some]
      · cases he
    · cases he
  · rename_i el sz bytes zz e1 e2
    obtain ⟨hu, i, z0, h1, h2, h3, h4, h5, h6, h7, rfl⟩ := td_slice e1
    have hd := td_str e2
    split at he
    · rename_i n cs f hel hre
      split at he
      · rename_i hn
        cases hb : isBytes cs with
        | none => simp [hb] at he
        | some bs =>
          simp only [hb, pur, Option.some.injEq] at he; subst he
          have hre' : reify1 g (lk x) = some (.row n cs, f) := hre
          have hv1 : V1 ρ S w (lk x) (ev x) := by
            refine v1_of hx ?_ ?_ ?_ ?_ <;> (intros; intro q; rw [q] at hre'; simp [reify1] at hre')
          have hp := reify1_sound C hre' hv1
          simp only [P1] at hp
          obtain ⟨a, cap, hs, hcap, hq⟩ := hp
          have hib := isBytes_of hb
          have hl : (loadCells (a.getD ⟨0, 0, none⟩) n).run P w = .ok (bs.map (Value.int .u8)).toArray w := by
            rcases hq with ⟨hn0, hcs⟩ | ⟨b, o', rfl, hS, hpc⟩
            · rw [hib] at hcs
              have : bs = [] := by simpa using hcs
              subst this; subst hn0; simp [loadCells, loadCellsFrom]
            · have := run_loadCells_list (P := P) w ⟨b, o', none⟩ (bs.map (Value.int .u8)) (fun j v hj => by
                rw [List.getElem?_map] at hj
                cases hbj : bs[j]? with
                | none => simp [hbj] at hj
                | some m =>
                  simp only [hbj, Option.map_some, Option.some.injEq] at hj; subst hj
                  obtain ⟨v, hv, hp⟩ := hpc.get (j := j) (c := .int .u8 m) (by rw [hib, List.getElem?_map, hbj]; rfl)
                  simp only [P1] at hp
                  rw [Addr_add, hv, hp])
              rw [List.length_map] at this
              rw [hn, hib, List.length_map]
              exact this
          have hrun : (convert s d (ev x)).run P w = .ok (.string (bytesOf bs)) w := by
            rw [hs, run_convert_bytes_string w s d el a n cap hu (td_int hel) hd]
            cases a with
            | none =>
              have : bs = [] := by
                rcases hq with ⟨hn0, hcs⟩ | ⟨b, o', q, hS, hpc⟩
                · rw [hib] at hcs; simpa using hcs
                · cases q
              subst this; rfl
            | some a =>
              rw [run_bytesToString w a n cap bs hl, foldl_push_ints]
              congr 2
              simp [bytesOf]
          simp only [Sem.run_bind, hrun, Result.andThen_ok, Sem.run_pure]
          exact Done.pure C (by simp only [V3, V2, V1, P1])
      · cases he
    · rename_i f hel hre
      simp only [pur, Option.some.injEq] at he; subst he
      have hre' : reify1 g (lk x) = some (.nil, f) := hre
      have hn : lk x = .nil := by
        cases hq : lk x <;> rw [hq] at hre' <;> simp [reify1] at hre' <;> first
          | rfl
          | (split at hre' <;> (try split at hre') <;> simp at hre')
      rw [hn] at hx
      have hrun : (convert s d (ev x)).run P w = .ok (.string .empty) w := by
        rw [nil_of hx, run_convert_bytes_string w s d el none 0 0 hu (td_int hel) hd]; rfl
      simp only [Sem.run_bind, hrun, Result.andThen_ok, Sem.run_pure]
      exact Done.pure C (by simp only [V3, V2, V1, P1])
    · cases he
  · cases he
/-! Calls of the language's own. -/
theorem map_args (c : Call) (ev : Operand → Value) : (c.args.map ev).toList = c.args.toList.map ev := by simp
theorem run_callB {b : Builtin} {c : Call} (hc : c.callee = .builtin b) {ty : TypeId} {v : Value} {w' : World} (hv : (do pure (Next.value (← (match b with | .append => Builtin.append_ c.argTypes ty (c.args.map ev) | .len => Builtin.len_ c.argTypes ty (c.args.map ev) | _ => stuck "" : Sem Value))) : Sem Next).run P w = .ok (.value v) w') (hb : b = .append ∨ b = .len) :
    (do let d ← resolve ev c ty; invoke d.target d.args : Sem Next).run P w = .ok (.value v) w' := by
  rcases hb with rfl | rfl
  · simp only [resolve, hc, Sem.run_bind, Sem.run_pure, Result.andThen_ok, invoke, builtin] at hv ⊢; exact hv
  · simp only [resolve, hc, Sem.run_bind, Sem.run_pure, Result.andThen_ok, invoke, builtin] at hv ⊢; exact hv

theorem args1 {xs : Array Operand} {a : AV} (h : xs.toList.map lk = [a]) : ∃ x, xs = #[x] ∧ lk x = a := by
  obtain ⟨l⟩ := xs
  cases l with
  | nil => simp at h
  | cons x r =>
    cases r with
    | nil => simp at h; exact ⟨x, rfl, h⟩
    | cons y r => simp at h
theorem args2 {α β : Type} {f : α → β} {xs : Array α} {a b : β} (h : xs.toList.map f = [a, b]) : ∃ x y, xs = #[x, y] ∧ f x = a ∧ f y = b := by
  obtain ⟨l⟩ := xs
  cases l with
  | nil => simp at h
  | cons x r =>
    cases r with
    | nil => simp at h
    | cons y r =>
      cases r with
      | nil => simp at h; exact ⟨x, y, rfl, h.1, h.2⟩
      | cons _ _ => simp at h
theorem args1' {α β : Type} {f : α → β} {xs : Array α} {a : β} (h : xs.toList.map f = [a]) : ∃ x, xs = #[x] ∧ f x = a := by
  obtain ⟨l⟩ := xs
  cases l with
  | nil => simp at h
  | cons x r =>
    cases r with
    | nil => simp at h; exact ⟨x, rfl, h⟩
    | cons y r => simp at h

theorem op_len (C : Ctx E P K ρ S h z w lk ev g fz) {c : Call} (ho : o.op = .call c) (hc : c.callee = .builtin .len) (he : eff E lk g fz slot o.op = some e) : OpGoal P K ρ S h z w ev o e := by
  rw [ho] at he; simp only [eff, hc, C.eP] at he
  unfold OpGoal execOp; simp only [ho]
  have slc : ∀ {x t el sz bytes zz a n cap}, c.args = #[x] → c.argTypes = #[t] → tdesc P t = .slice el sz bytes zz → ev x = .slice a n cap → (do let d ← resolve ev c o.type; invoke d.target d.args : Sem Next).run P w = .ok (.value (.int .i64 n)) w := by
    intro x t el sz bytes zz a n cap h1 h2 h3 h4
    refine run_callB hc ?_ (.inr rfl)
    simp only [h1, h2, Builtin.len_, List.map_toArray, List.map_cons, List.map_nil, List.getElem?_toArray, List.getElem?_cons_zero, Sem.run_bind, run_underlying (td_slice h3).1, Result.andThen_ok, h4, Sem.run_pure, goInt]
  split at he
  · rename_i n cs el sz bytes zz ha ht
    obtain ⟨x, hx, hl⟩ := args1' ha
    obtain ⟨t, ht', htd⟩ := args1' ht
    simp only [pur, Option.some.injEq] at he; subst he
    obtain ⟨a, cap, hs, _⟩ := row_of (hl ▸ C.look x)
    rw [slc hx ht' htd hs]
    exact Done.pure C (by simp only [V3, V2, V1, P1])
  · rename_i id off n sz' el sz bytes zz ha ht
    obtain ⟨x, hx, hl⟩ := args1' ha
    obtain ⟨t, ht', htd⟩ := args1' ht
    simp only [pur, Option.some.injEq] at he; subst he
    have hv := v1_of (hl ▸ C.look x) (by simp) (by simp) (by simp) (by simp)
    obtain ⟨a, cap, hs, _⟩ := hv.own_shape
    rw [slc hx ht' htd hs]
    exact Done.pure C (by simp only [V3, V2, V1, P1])
  · rename_i el sz bytes zz ha ht
    obtain ⟨x, hx, hl⟩ := args1' ha
    obtain ⟨t, ht', htd⟩ := args1' ht
    simp only [pur, Option.some.injEq] at he; subst he
    rw [slc hx ht' htd (nil_of (hl ▸ C.look x))]
    exact Done.pure C (by simp only [V3, V2, V1, P1]; rfl)
  · rename_i b ha ht
    obtain ⟨x, hx, hl⟩ := args1' ha
    obtain ⟨t, ht', htd⟩ := args1' ht
    simp only [pur, Option.some.injEq] at he; subst he
    have hr : (do let d ← resolve ev c o.type; invoke d.target d.args : Sem Next).run P w = .ok (.value (.int .i64 b.size)) w := by
      refine run_callB hc ?_ (.inr rfl)
      simp only [hx, ht', Builtin.len_, List.map_toArray, List.map_cons, List.map_nil, List.getElem?_toArray, List.getElem?_cons_zero, Sem.run_bind, run_underlying (td_str htd), Result.andThen_ok, str_of (hl ▸ C.look x), Sem.run_pure, goInt]
    rw [hr]
    exact Done.pure C (by simp only [V3, V2, V1, P1])
  · cases he
end
/- Appends. -/
section
variable {K S : Nat → Prop} {w : World} {ρ : Nat → Loc} {P : Program} {E : Env} {h : List Blk} {z : List Bool} {lk : Operand → AV} {ev : Operand → Value} {g : Nat → Option Blk} {fz : Nat → Bool} {slot : Nat} {o : Oper} {e : Eff}

theorem setCells_at (b : Nat) : ∀ (vs : List Value) (o : Nat) (w : World) (ccs : Array Value) (e : TypeId), w.heap[b]? = some (.cells ccs e (0, 0)) →
    (w.setCells b o vs).heap[b]? = some (.cells (lay ccs o vs) e (0, 0)) ∧ (∀ k, k ≠ b → (w.setCells b o vs).heap[k]? = w.heap[k]?) ∧ (w.setCells b o vs).heap.size = w.heap.size ∧ (w.setCells b o vs).os = w.os ∧ (w.setCells b o vs).tape = w.tape ∧ (w.setCells b o vs).output = w.output
  | [], _, _, _, _, hb => ⟨hb, fun _ _ => rfl, rfl, rfl, rfl, rfl⟩
  | v :: r, o, w, ccs, e, hb => by
    have h1 : w.setCell ⟨b, o, none⟩ v = w.setRow b (ccs.setIfInBounds o v) := setCell_eq_setRow w b o ccs e (0, 0) v hb
    have hb' : (w.setCell ⟨b, o, none⟩ v).heap[b]? = some (.cells (ccs.setIfInBounds o v) e (0, 0)) := by rw [h1]; exact setRow_heap w b ccs _ e _ hb
    obtain ⟨a1, a2, a3, a4, a5, a6⟩ := setCells_at b r (o + 1) (w.setCell ⟨b, o, none⟩ v) _ e hb'
    rw [World.setCells]
    refine ⟨a1, fun k hk => (a2 k hk).trans (by rw [h1]; exact setRow_other w b k _ hk), a3.trans (by simp), a4.trans rfl, a5.trans rfl, a6.trans rfl⟩

/-- Nothing is appended. -/
theorem run_append_zero (w : World) (t ty e : TypeId) (i : TypeInfo) (ht : P.underlying t = some (.slice e)) (hi : P.info? e = some i) (base : Option Addr) (n cap : Nat) (hn : n ≤ cap) (a : Option Addr) (c : Nat) :
    (Builtin.append_ #[t, t] ty #[.slice base n cap, .slice a 0 c]).run P w = .ok (.slice base n cap) w := by
  cases base <;> cases a <;> simp [Builtin.append_, run_underlying ht, sizeOf, typeInfo, hi, Builtin.lenOf, Builtin.firstCells, hn, loadCells, loadCellsFrom, storeCells]

/-- What is appended lies there. -/
theorem src_of (C : Ctx E P K ρ S h z w lk ev g fz) {sz m : Nat} {y : AV} {v : Value} {ds : List AV} (hs : srcA g sz y = some (m, ds)) (hv : V3 ρ S w y v) :
    ∃ (a : Option Addr) (c : Nat) (news : List Value), v = .slice a m c ∧ news.length = m * sz ∧ (ds.length = m * sz ∧ ∀ (j : Nat) (d : AV), ds[j]? = some d → ∃ u, news[j]? = some u ∧ P1 S w d u) ∧ (∀ u ∈ news, u.oneCell' = true) ∧ (m = 0 ∨ ∃ ad, a = some ad ∧ ∀ (j : Nat) (u : Value), news[j]? = some u → w.cell? (ad.add j) = some u) := by
  -- cells at a place
  have at_ : ∀ {b o : Nat} {l : List AV}, (∀ (j : Nat) (c : AV), l[j]? = some c → ∃ v, w.cell? ⟨b, o + j, none⟩ = some v ∧ P1 S w c v) → ∃ news : List Value, news.length = l.length ∧ (∀ (j : Nat) (d : AV), l[j]? = some d → ∃ u, news[j]? = some u ∧ P1 S w d u) ∧ (∀ u ∈ news, u.oneCell' = true) ∧ ∀ (j : Nat) (u : Value), news[j]? = some u → w.cell? ((⟨b, o, none⟩ : Addr).add j) = some u := by
    intro b o l hl
    let news := (List.range l.length).map fun j => (w.cell? ⟨b, o + j, none⟩).getD Go.undef
    have hget : ∀ j, j < l.length → ∃ v, news[j]? = some v ∧ w.cell? ⟨b, o + j, none⟩ = some v ∧ ∀ d, l[j]? = some d → P1 S w d v := by
      intro j hj
      obtain ⟨v, hv, hp⟩ := hl j _ (List.getElem?_eq_getElem hj)
      exact ⟨v, by simp [news, hj, hv], hv, fun d hd => by rw [List.getElem?_eq_getElem hj] at hd; cases hd; exact hp⟩
    have hlen : news.length = l.length := by simp [news]
    refine ⟨news, hlen, fun j d hd => ?_, fun u hu => ?_, fun j u hu => ?_⟩
    · obtain ⟨v, a, _, c⟩ := hget j (List.getElem?_eq_some_iff.1 hd).1
      exact ⟨v, a, c d hd⟩
    · obtain ⟨j, hj⟩ := List.getElem?_of_mem hu
      have hjl : j < l.length := by rw [← hlen]; exact (List.getElem?_eq_some_iff.1 hj).1
      obtain ⟨v, a, _, c⟩ := hget j hjl
      rw [hj] at a; cases a
      exact (c _ (List.getElem?_eq_getElem hjl)).one
    · have hjl : j < l.length := by rw [← hlen]; exact (List.getElem?_eq_some_iff.1 hu).1
      obtain ⟨v, a, b', _⟩ := hget j hjl
      rw [hu] at a; cases a
      rw [Addr_add]; exact b'
  unfold srcA at hs
  split at hs
  · simp only [Option.some.injEq, Prod.mk.injEq] at hs
    obtain ⟨rfl, rfl⟩ := hs
    exact ⟨none, 0, [], nil_of hv, by simp, ⟨by simp, fun j d hj => by simp at hj⟩, by simp, .inl rfl⟩
  · rename_i m' ds'
    split at hs
    · rename_i hl
      simp only [Option.some.injEq, Prod.mk.injEq] at hs
      obtain ⟨rfl, rfl⟩ := hs
      obtain ⟨a, cap, rfl, hn, hq⟩ := row_of hv
      rcases hq with ⟨rfl, rfl⟩ | ⟨b, o', rfl, hS, hpc⟩
      · exact ⟨a, cap, [], rfl, by simp, ⟨by simp, fun j d hj => by simp at hj⟩, by simp, .inl rfl⟩
      · obtain ⟨news, h1, h2, h3, h4⟩ := at_ (fun j c hj => hpc.get hj)
        exact ⟨_, cap, news, rfl, h1.trans hl, ⟨hl, h2⟩, h3, .inr ⟨_, rfl, h4⟩⟩
    · cases hs
  · rename_i id off m' sz'
    split at hs
    · rename_i ds' hg
      split at hs
      · rename_i hl
        obtain ⟨rfl, hl⟩ := hl
        simp only [Option.some.injEq, Prod.mk.injEq] at hs
        obtain ⟨rfl, rfl⟩ := hs
        have hlen : ((ds'.drop off).take (m' * sz')).length = m' * sz' := by simp; omega
        have hv1 := v1_of hv (by simp) (by simp) (by simp) (by simp)
        obtain ⟨a, cap, rfl, hn, hz⟩ := hv1.own_shape
        by_cases hm : m' = 0
        · subst hm
          exact ⟨a, cap, [], rfl, by simp, ⟨by simp, fun j d hj => by simp at hj⟩, by simp, .inl rfl⟩
        · obtain ⟨b, rfl⟩ := hz.resolve_left hm
          simp only [V1] at hv1
          rcases C.arr hg with ⟨hq, _⟩ | ⟨b', ccs, ty, hq, hb, hcs⟩
          · rw [hq] at hv1; exact (hm hv1.1).elim
          · rw [hq] at hv1
            obtain ⟨o', cap', h1, _, _, h3⟩ := hv1
            cases h1
            obtain ⟨news, h1, h2, h3, h4⟩ := at_ (b := b) (o := off) (l := (ds'.drop off).take (m' * sz')) (fun j c hj => by
              rw [List.getElem?_take] at hj
              split at hj
              · rw [List.getElem?_drop] at hj
                obtain ⟨v, hv, hp⟩ := hcs _ _ hj
                exact ⟨v, by simp [World.cell?, hb, hv], hp⟩
              · cases hj)
            exact ⟨_, cap, news, rfl, h1.trans hlen, ⟨hlen, h2⟩, h3, .inr ⟨_, rfl, h4⟩⟩
      · cases hs
    · cases hs
  · cases hs

/-- A new row, behind an append that grew. -/
theorem Done.grown (C : Ctx E P K ρ S h z w lk ev g fz) (hs : h[slot]? = some .dead) {n sz : Nat} {el : TypeId} {v : Value} {w' : World} {xs : List Value} {cs : List AV} (hpos : 0 < n)
    (hown : w'.ownsRow w.heap.size el sz v n xs) (hg : w.grownBy w' none) (hcs : ∀ (j : Nat) (c : AV), cs[j]? = some c → ∃ u, xs[j]? = some u ∧ P1 S w c u) :
    (Done K ρ S h z w ⟨.own slot 0 n sz, [(slot, .arr cs)], []⟩ v w') ∧ ∀ id, id < h.length → ρ id ≠ .free → Done K ρ S h z w ⟨.own slot 0 n sz, [(id, .gone), (slot, .arr cs)], []⟩ v w' := by
  obtain ⟨hlen, hq⟩ := hown
  obtain ⟨b, cap, cur, rfl, hb, hcur, hn, hmax, hsz, htake⟩ := hq.resolve_left (by rintro ⟨_, q⟩; omega)
  have hold : ∀ k, k < w.heap.size → w'.heap[k]? = w.heap[k]? := fun k hk => hg.block k hk (by simp)
  have hcells : ∀ (j : Nat) (c : AV), cs[j]? = some c → ∃ u, cur[j]? = some u ∧ P1 S w' c u := by
    intro j c hj
    obtain ⟨u, hu, hp⟩ := hcs j c hj
    refine ⟨u, ?_, P1.mono (fun _ h => h) (fun k hk => hold k (C.mem.sb k hk)) _ _ hp⟩
    rw [← htake, List.getElem?_take] at hu
    split at hu
    · simpa using hu
    · cases hu
  have val : ∀ (ρ' : Nat → Loc), ρ' slot = .at b cur.size → V3 ρ' S w' (.own slot 0 n sz) (.slice (some ⟨b, 0, none⟩) n cap) := by
    intro ρ' hr
    simp only [V3, V2, V1, hr]
    exact ⟨0, cap, rfl, hn, by omega, .inl rfl⟩
  refine ⟨?_, fun id hid hfree => ?_⟩
  · obtain ⟨H, X⟩ := C.mem.new (w' := w') (b := b) (ccs := cur) (e := el) (x := .arr cs) hs hb hg.size hold hcur hg.os hg.tape hg.output (.inr ⟨b, cur, el, rfl, hcur, hcells⟩)
    exact ⟨_, _, X, H, val _ (upd_same _ _ _)⟩
  · obtain ⟨H1, X1⟩ := C.mem.go hid hfree
    have hne : id ≠ slot := fun q => by subst q; have := C.mem.blk id; rw [hs] at this; exact hfree this
    have hs' : (h.set id .gone)[slot]? = some .dead := by rw [List.getElem?_set_ne hne]; exact hs
    obtain ⟨H, X⟩ := H1.new (w' := w') (b := b) (ccs := cur) (e := el) (x := .arr cs) hs' hb hg.size hold hcur hg.os hg.tape hg.output (.inr ⟨b, cur, el, rfl, hcur, hcells⟩)
    exact ⟨_, _, X1.trans X, H, val _ (upd_same _ _ _)⟩

theorem app_cells {cs ds : List AV} {olds news : List Value} {k : Nat} (ho : olds.length = k) (hk : k ≤ cs.length) (h1 : ∀ (j : Nat) (c : AV), (cs.take k)[j]? = some c → ∃ u, olds[j]? = some u ∧ P1 S w c u) (h2 : ∀ (j : Nat) (d : AV), ds[j]? = some d → ∃ u, news[j]? = some u ∧ P1 S w d u) :
    ∀ (j : Nat) (c : AV), (cs.take k ++ ds)[j]? = some c → ∃ u, (olds ++ news)[j]? = some u ∧ P1 S w c u := by
  intro j c hj
  have hl : (cs.take k).length = k := by simp; omega
  rw [List.getElem?_append, hl] at hj
  rw [List.getElem?_append, ho]
  split at hj
  · rename_i hq; rw [if_pos hq]; exact h1 j c hj
  · rename_i hq; rw [if_neg hq]; exact h2 _ c hj

theorem app_of (C : Ctx E P K ρ S h z w lk ev g fz) (hs : h[slot]? = some .dead) {t ty el : TypeId} {sz bytes m : Nat} {zz : List AV} {x y : AV} {u v : Value} {ds : List AV} (ht : tdesc P t = .slice el sz bytes zz) (hsrc : srcA g sz y = some (m, ds)) (he : appA g fz slot sz bytes x m ds = some e)
    (hx : V3 ρ S w x u) (hy : V3 ρ S w y v) : ∃ v' w', (Builtin.append_ #[t, t] ty #[u, v]).run P w = .ok v' w' ∧ Done K ρ S h z w e v' w' := by
  obtain ⟨hu, i, z0, h1, h2, h3, h4, h5, h6, h7, rfl⟩ := td_slice ht
  obtain ⟨a, c, news, rfl, hnl, hds, hn1, hm0⟩ := src_of C hsrc hy
  have virt : ∀ {v' : Value} {a' : Option Addr}, v' = .slice a' 0 0 → Done K ρ S h z w ⟨.own slot 0 0 sz, [(slot, .arr [])], []⟩ v' w := by
    rintro v' a' rfl
    obtain ⟨H, X⟩ := C.mem.newVirt hs
    exact ⟨_, _, X, H, by simp only [V3, V2, V1, upd_same, true_and]; exact ⟨a', rfl⟩⟩
  unfold appA at he
  split at he
  · -- nil
    split at he
    · rename_i hb
      simp only [Option.some.injEq] at he; subst he
      rw [nil_of hx]
      by_cases hm : m = 0
      · subst hm
        have : ds = [] := List.eq_nil_of_length_eq_zero (by simpa using hds.1)
        subst this
        exact ⟨_, _, run_append_zero w t ty el i hu h1 none 0 0 (Nat.le_refl _) a c, virt rfl⟩
      · obtain ⟨ad, rfl, had⟩ := hm0.resolve_left hm
        obtain ⟨v', w', hr, ho, hg, _⟩ := run_append_own (P := P) w w.heap.size t ty el i z0 sz bytes hu h1 h2 h4 h6 h3 (by omega) (.slice none 0 0) 0 [] (World.ownsRow_nil _ _ _ _) ad m c news hnl had hn1 (by simp only [maxLen, maxSize, maxApp] at *; omega) (by simp only [maxApp, Nat.zero_add] at *; omega) (Nat.le_refl _)
        simp only [Nat.zero_add, List.nil_append] at ho
        exact ⟨v', w', hr, (Done.grown C hs (by omega) ho hg hds.2).1⟩
    · cases he
  · -- a row of the call's own
    rename_i id off n sz'
    split at he
    · rename_i hof
      obtain ⟨rfl, hfz⟩ := hof
      have hz := C.frz id hfz
      split at he
      · rename_i cs hg
        split at he
        · rename_i hb
          obtain ⟨rfl, hnc, hbytes, hlen⟩ := hb
          simp only [Option.some.injEq] at he; subst he
          have hid : id < h.length := (List.getElem?_eq_some_iff.1 (C.sees id _ hg)).1
          have hv1 := v1_of hx (by simp) (by simp) (by simp) (by simp)
          simp only [V1] at hv1
          rcases C.arr hg with ⟨hq, rfl⟩ | ⟨b, ccs, ty', hq, hbk, hcs⟩
          · rw [hq] at hv1
            obtain ⟨rfl, a', rfl⟩ := hv1
            simp only [Nat.zero_add, List.take_nil, List.nil_append] at *
            have hfree : ρ id ≠ .free := by rw [hq]; simp
            by_cases hm : m = 0
            · subst hm
              have : ds = [] := List.eq_nil_of_length_eq_zero (by simpa using hds.1)
              subst this
              refine ⟨_, _, run_append_zero w t ty el i hu h1 a' 0 0 (Nat.le_refl _) a c, ?_⟩
              obtain ⟨H1, X1⟩ := C.mem.go hid hfree
              have hne : id ≠ slot := fun q => by subst q; have := C.mem.blk id; rw [hs] at this; exact hfree this
              obtain ⟨H, X⟩ := H1.newVirt (slot := slot) (by rw [List.getElem?_set_ne hne]; exact hs)
              exact ⟨_, _, X1.trans X, H, by simp only [V3, V2, V1, upd_same, true_and]; exact ⟨a', rfl⟩⟩
            · obtain ⟨ad, rfl, had⟩ := hm0.resolve_left hm
              cases a' with
              | none =>
                obtain ⟨v', w', hr, ho, hg', _⟩ := run_append_own (P := P) w w.heap.size t ty el i z0 sz' bytes hu h1 h2 h4 h6 h3 (by omega) (.slice none 0 0) 0 [] (World.ownsRow_nil _ _ _ _) ad m c news hnl had hn1 (by simp only [maxLen, maxSize, maxApp] at *; omega) (by simp only [maxApp, Nat.zero_add] at *; omega) (Nat.le_refl _)
                simp only [Nat.zero_add, List.nil_append] at ho
                exact ⟨v', w', hr, (Done.grown C hs (by omega) ho hg' hds.2).2 id hid hfree⟩
              | some a' =>
                obtain ⟨v', w', hr, ho, hg'⟩ := run_append_arg_grows (P := P) w t ty el i z0 sz' bytes hu h1 h2 h4 h6 h3 (by omega) a' 0 0 [] (by simp) (by simp) ad m c news hnl had (by omega) (by simp only [maxLen, maxSize, maxApp] at *; omega) (by simp only [maxApp, Nat.zero_add] at *; omega)
                simp only [Nat.zero_add, List.nil_append] at ho
                exact ⟨v', w', hr, (Done.grown C hs (by omega) ho hg' hds.2).2 id hid hfree⟩
          · rw [hq] at hv1
            obtain ⟨o', cap, rfl, hncap, hcap, ho'⟩ := hv1
            have hfree : ρ id ≠ .free := by rw [hq]; simp
            have hcl := size_le hcs
            -- the row stays where it is
            have stay : ∀ (ccs' : Array Value) (w' : World), ccs'.size = ccs.size → w'.heap.size = w.heap.size → (∀ k, k ≠ b → w'.heap[k]? = w.heap[k]?) → w'.heap[b]? = some (.cells ccs' ty' (0, 0)) → w'.os = w.os → w'.tape = w.tape → w'.output = w.output →
                (∀ (j : Nat) (c : AV), (cs.take (n * sz') ++ ds)[j]? = some c → ∃ u, ccs'[j]? = some u ∧ P1 S w c u) → n + m ≤ cap → Done K ρ S h z w ⟨.own slot 0 (n + m) sz', [(id, .gone), (slot, .arr (cs.take (n * sz') ++ ds))], []⟩ (.slice (some ⟨b, o', none⟩) (n + m) cap) w' := by
              intro ccs' w' e1 e2 e3 e4 e5 e6 e7 e8 e9
              have hS : ∀ k, S k → w'.heap[k]? = w.heap[k]? := fun k hk => e3 k fun q => by subst q; exact C.mem.own _ _ _ hq hz hk
              obtain ⟨H, X⟩ := C.mem.move (w' := w') (ccs := ccs') (e := ty') hq hz hs e1 e2 e3 e4 e5 e6 e7 (fun j c hj => let ⟨u, hu, hp⟩ := e8 j c hj; ⟨u, hu, P1.mono (fun _ h => h) hS _ _ hp⟩)
              refine ⟨_, _, X, H, ?_⟩
              simp only [V3, V2, V1, upd_same]
              refine ⟨o', cap, rfl, e9, hcap, ?_⟩
              rcases ho' with q | ⟨q1, q2⟩
              · exact .inl q
              · exact .inr ⟨by omega, q2⟩
            have holds : ∃ olds : List Value, olds.length = n * sz' ∧ (∀ (j : Nat) (c : AV), (cs.take (n * sz'))[j]? = some c → ∃ u, olds[j]? = some u ∧ P1 S w c u) ∧ (∀ j u, olds[j]? = some u → w.cell? ((⟨b, o', none⟩ : Addr).add j) = some u) ∧ (∀ j, j < n * sz' → ccs[j]? = olds[j]?) := by
              refine ⟨ccs.toList.take (n * sz'), by simp; omega, fun j c hj => ?_, fun j u hu => ?_, fun j hj => ?_⟩
              · rw [List.getElem?_take] at hj
                split at hj
                · rename_i hjn
                  obtain ⟨u, hu, hp⟩ := hcs j c hj
                  exact ⟨u, by rw [List.getElem?_take, if_pos hjn]; simpa using hu, hp⟩
                · cases hj
              · rw [List.getElem?_take] at hu
                split at hu
                · rename_i hjn
                  rcases ho' with rfl | ⟨rfl, _⟩
                  · rw [Addr_add]; simp only [World.cell?, hbk, Option.isSome_none, Bool.false_eq_true, if_false, Nat.zero_add]; simpa using hu
                  · omega
                · cases hu
              · rw [List.getElem?_take, if_pos hj]; simp
            obtain ⟨olds, ol1, ol2, ol3, ol4⟩ := holds
            by_cases hm : m = 0
            · subst hm
              have : ds = [] := List.eq_nil_of_length_eq_zero (by simpa using hds.1)
              subst this
              refine ⟨_, _, run_append_zero w t ty el i hu h1 _ n cap hncap a c, ?_⟩
              refine stay ccs w rfl rfl (fun _ _ => rfl) hbk rfl rfl rfl (fun j c hj => ?_) (by omega)
              rw [List.append_nil, List.getElem?_take] at hj
              split at hj
              · exact hcs j c hj
              · cases hj
            · obtain ⟨ad, rfl, had⟩ := hm0.resolve_left hm
              by_cases hroom : n + m ≤ cap
              · have ho0 : o' = 0 := by rcases ho' with q | ⟨_, q⟩ <;> omega
                subst ho0
                have hfit : n * sz' + news.length ≤ ccs.size := by
                  rw [hnl, ← Nat.add_mul]
                  exact Nat.le_trans (Nat.mul_le_mul_right _ hroom) (by omega)
                have hr := run_append_room_cells (P := P) w t ty el i hu h1 b 0 n cap ad m c news (by rw [h4]; exact hnl) had hn1 hroom
                  (fun j hj => by rw [h4]; simp only [World.cell?, hbk, Option.isSome_none, Bool.false_eq_true, if_false, Nat.zero_add]; rw [Array.getElem?_eq_getElem (by omega)]; rfl) (fun j hj => by simp [World.frozen?, hbk])
                rw [h4, Nat.zero_add] at hr
                obtain ⟨a1, a2, a3, a4, a5, a6⟩ := setCells_at b news (n * sz') w ccs ty' hbk
                refine ⟨_, _, hr, stay _ _ (lay_size _ _ _) a3 a2 a1 a4 a5 a6 ?_ hroom⟩
                intro j c hj
                obtain ⟨u, hu, hp⟩ := app_cells ol1 hnc ol2 hds.2 j c hj
                refine ⟨u, ?_, hp⟩
                rw [lay_get _ _ _ _ hfit]
                rw [List.getElem?_append, ol1] at hu
                split at hu
                · rename_i hjl; rw [if_neg (by omega), ol4 j hjl]; exact hu
                · rename_i hjl
                  have := (List.getElem?_eq_some_iff.1 hu).1
                  rw [if_pos ⟨by omega, by omega⟩]; exact hu
              · obtain ⟨v', w', hr, ho, hg'⟩ := run_append_arg_grows (P := P) w t ty el i z0 sz' bytes hu h1 h2 h4 h6 h3 (by omega) ⟨b, o', none⟩ n cap olds ol1 ol3 ad m c news hnl had (by omega) (by simp only [maxLen, maxSize, maxApp] at *; omega) (by simp only [maxApp] at *; omega)
                exact ⟨v', w', hr, (Done.grown C hs (by omega) ho hg' (app_cells ol1 hnc ol2 hds.2)).2 id hid hfree⟩
        · cases he
      · cases he
    · cases he
  · cases he

theorem op_append (C : Ctx E P K ρ S h z w lk ev g fz) (hs : h[slot]? = some .dead) {c : Call} (ho : o.op = .call c) (hc : c.callee = .builtin .append) (he : eff E lk g fz slot o.op = some e) : OpGoal P K ρ S h z w ev o e := by
  rw [ho] at he; simp only [eff, hc, C.eP] at he
  unfold OpGoal execOp; simp only [ho]
  split at he
  · rename_i x y t t' ha ht
    obtain ⟨x', y', hxy, hlx, hly⟩ := args2 ha
    split at he
    · rename_i el sz bytes zz htd
      split at htd
      · rename_i htt; subst htt
        cases hsrc : srcA g sz y with
        | none => simp [hsrc] at he
        | some p =>
          obtain ⟨m, ds⟩ := p
          simp only [hsrc] at he
          have ht2 : c.argTypes = #[t, t] := by apply Array.ext'; simpa using ht
          obtain ⟨v', w', hr, hd⟩ := app_of (ty := o.type) C hs htd hsrc he (hlx ▸ C.look x') (hly ▸ C.look y')
          have hrun : (do let d ← resolve ev c o.type; invoke d.target d.args : Sem Next).run P w = .ok (.value v') w' := by
            refine run_callB hc ?_ (.inl rfl)
            simp only [hxy, ht2, List.map_toArray, List.map_cons, List.map_nil, Sem.run_bind, hr, Result.andThen_ok, Sem.run_pure]
          rw [hrun]; exact hd
      · cases htd
    · cases he
  · cases he
end
/- copy, told of abstract values. -/
section
variable {K S : Nat → Prop} {w : World} {ρ : Nat → Loc} {P : Program} {E : Env} {h : List Blk} {z : List Bool} {lk : Operand → AV} {ev : Operand → Value} {g : Nat → Option Blk} {fz : Nat → Bool} {slot : Nat} {o : Oper} {e : Eff}
theorem run_copy_all (w : World) (t ty el : TypeId) (i : TypeInfo) (hu : P.underlying t = some (.slice el)) (hi : P.info? el = some i) {b off n cap c : Nat} {ad : Addr} {news : List Value} {ccs : Array Value} {ty' : TypeId} (hnl : news.length = n * i.size) (had : ∀ (j : Nat) (u : Value), news[j]? = some u → w.cell? (ad.add j) = some u)
    (hb : w.heap[b]? = some (.cells ccs ty' (0, 0))) (hl : off + n * i.size ≤ ccs.size) (h1 : ∀ u ∈ news, u.oneCell' = true) :
    (Builtin.copy_ #[t, t] ty #[.slice (some ⟨b, off, none⟩) n cap, .slice (some ad) n c]).run P w = .ok (goInt n) (w.setRow b (lay ccs off news)) := by
  have hst := run_storeCells_at P b off ty' news 0 ccs w hb (by simp; omega) h1
  rw [Nat.add_zero, lay_list _ _ _ (by omega)] at hst
  have hf : (Builtin.firstCells i.size n (.slice (some ad) n c)).run P w = .ok news.toArray w := run_firstCells_some (P := P) (w := w) i.size n ad n c news hnl had
  have hmin : Nat.min n n = n := Nat.min_self n
  simp [Builtin.copy_, run_underlying hu, Builtin.lenOf, sizeOf, typeInfo, hi, hf, hst, hmin]
theorem op_copy (C : Ctx E P K ρ S h z w lk ev g fz) {c : Call} (ho : o.op = .call c) (hc : c.callee = .builtin .copy) (he : eff E lk g fz slot o.op = some e) : OpGoal P K ρ S h z w ev o e := by
  rw [ho] at he; simp only [eff, hc, C.eP] at he
  unfold OpGoal execOp; simp only [ho]
  split at he
  · rename_i x y t t' ha ht
    obtain ⟨x', y', hxy, hlx, hly⟩ := args2 ha
    split at he
    · rename_i el sz bytes zz id off n sz' htd
      split at htd
      · rename_i htt; subst htt
        split at he
        · rename_i m ds hsrc
          split at he
          · rename_i hfz
            split at he
            · rename_i cs hg
              split at he
              · rename_i hb
                obtain ⟨rfl, rfl, hn0, hl⟩ := hb
                simp only [Option.some.injEq] at he; subst he
                have ht2 : c.argTypes = #[t, t] := by apply Array.ext'; simpa using ht
                obtain ⟨hu, i, z0, h1, h2, h3, h4, h5, h6, h7, rfl⟩ := td_slice htd
                have hxv := C.look x'
                rw [hlx] at hxv
                have hv1 := v1_of hxv (by simp) (by simp) (by simp) (by simp)
                simp only [V1] at hv1
                obtain ⟨a, cap', news, hv, hnl, hds, hn1, hm0⟩ := src_of C hsrc (hly ▸ C.look y')
                obtain ⟨ad, rfl, had⟩ := hm0.resolve_left hn0
                have hz := C.frz id (by simpa using hfz)
                have hsz : 0 < sz' := by omega
                have hmul : 0 < m * sz' := Nat.mul_pos (by omega) hsz
                rcases C.arr hg with ⟨hq, rfl⟩ | ⟨b, ccs, ty', hq, hbk, hcs⟩
                · simp only [List.length_nil] at hl; omega
                · rw [hq] at hv1
                  obtain ⟨o', cap, hxe, hncap, hcap, ho'⟩ := hv1
                  have ho2 : o' = off := by rcases ho' with q | ⟨q, _⟩; exact q; exact (hn0 q).elim
                  subst ho2
                  have hcl := size_le hcs
                  have hr := run_copy_all (P := P) w t o.type el i hu h1 (b := b) (off := o') (n := m) (cap := cap) (c := cap') (ad := ad) (news := news) (ccs := ccs) (ty' := ty') (by rw [h4]; exact hnl) had hbk (by rw [h4]; omega) hn1
                  have hrun : (do let d ← resolve ev c o.type; invoke d.target d.args : Sem Next).run P w = .ok (.value (goInt m)) (w.setRow b (lay ccs o' news)) := by
                    simp only [resolve, hc, Sem.run_bind, Sem.run_pure, Result.andThen_ok, invoke, builtin, hxy, ht2, List.map_toArray, List.map_cons, List.map_nil, hxe, hv, hr]
                  rw [hrun]
                  refine Done.write C hq hz (by simp) hbk (lay_size _ _ _) (.inr ⟨b, _, ty', by rw [lay_size], setRow_heap w b ccs _ ty' _ hbk, ?_⟩) (by simp only [V3, V2, V1, P1, goInt])
                  have hS : ∀ k, Sf S ρ [] k → (w.setRow b (lay ccs o' news)).heap[k]? = w.heap[k]? := fun k hk => setRow_other w b k _ fun q => by
                    subst q
                    rcases hk with hk | ⟨i, hi, _⟩
                    · exact C.mem.own _ _ _ hq hz hk
                    · simp at hi
                  exact CR.lay (fun j c hj => let ⟨v, a, d⟩ := hcs j c hj; ⟨v, a, P1.mono (fun _ h => h) hS _ _ (P1.mono (fun _ h => .inl h) (fun _ _ => rfl) _ _ d)⟩)
                    ⟨by rw [hds.1, hnl], fun j c hj => let ⟨v, a, d⟩ := hds.2 j c hj; ⟨v, a, P1.mono (fun _ h => h) hS _ _ (P1.mono (fun _ h => .inl h) (fun _ _ => rfl) _ _ d)⟩⟩ (by rw [hds.1]; exact hl) (by omega)
              · cases he
            · cases he
          · cases he
        · cases he
      · cases htd
    · cases he
  · cases he
end
/- Maps: made, looked up, written. -/
section
variable {K S : Nat → Prop} {w : World} {ρ : Nat → Loc} {P : Program} {E : Env} {h : List Blk} {z : List Bool} {lk : Operand → AV} {ev : Operand → Value} {g : Nat → Option Blk} {fz : Nat → Bool} {slot : Nat} {o : Oper} {e : Eff}

theorem keyA_sound : ∀ (d : Nat) (t : TypeId) (x : AV) (v : Value) (em : Bool) (dd : Nat), keyA P d t x = true → V2 ρ S w x v → (Instr.checkKey em (dd + d) t v).run P w = .ok () w
  | 0, t, x, v, em, dd, h, _ => by simp [keyA] at h
  | d + 1, t, x, v, em, dd, h, hx => by
    unfold keyA at h
    rw [show dd + (d + 1) = (dd + d) + 1 from rfl]
    split at h
    · rename_i hu
      rw [int_of hx.v3]; exact MapKept.run_checkKey hu (by simp at h; simp [MapKept.IsKey, h]) em _
    · rename_i hu
      rw [bool_of hx.v3]; exact MapKept.run_checkKey hu (by simp [MapKept.IsKey]) em _
    · rename_i hu
      rw [str_of hx.v3]; exact MapKept.run_checkKey hu (by simp [MapKept.IsKey]) em _
    · rename_i fs xs hu
      simp only [V2] at hx
      obtain ⟨vs, rfl, hvs⟩ := hx
      rw [Instr.checkKey]
      simp only [Sem.run_bind, run_underlying hu, Result.andThen_ok]
      rw [← Array.forIn_toList]
      generalize fs.toList = l at h
      induction l with
      | nil => simp
      | cons f l ih =>
        simp only [keyFs, Bool.and_eq_true] at h
        obtain ⟨⟨hn, ha⟩, hr⟩ := h
        split at ha
        · rename_i a hp
          obtain ⟨v1, r1, h1⟩ := part_of0 hvs hp
          have h3 := keyA_sound d f.type a v1 em dd ha h1
          have hn' : f.name ≠ "_" := by simpa using hn
          simp only [List.forIn_cons, ne_eq, hn', not_false_eq_true, if_true, Sem.run_bind, r1, Result.andThen_ok, h3, Sem.run_pure]
          exact ih hr
        · cases ha
    · cases h

theorem scal1_v1 {x : AV} {v : Value} (hs : scal1 x = true) (hx : V1 ρ S w x v) (ρ' : Nat → Loc) (S' : Nat → Prop) (w' : World) : V1 ρ' S' w' x v := by
  cases x <;> first | exact hx | (simp [scal1] at hs)
theorem keyS_v2 {x : AV} {v : Value} (hs : keyS x = true) (hx : V2 ρ S w x v) (ρ' : Nat → Loc) (S' : Nat → Prop) (w' : World) : V2 ρ' S' w' x v := by
  cases x with
  | agg xs =>
    simp only [V2] at hx ⊢
    obtain ⟨vs, hv, hc⟩ := hx
    simp only [keyS, List.all_eq_true] at hs
    exact ⟨vs, hv, hc.1, fun j c hj => let ⟨u, a, b⟩ := hc.2 j c hj; ⟨u, a, scal1_v1 (hs c (List.mem_of_getElem? hj)) b _ _ _⟩⟩
  | _ => first | exact hx | (simp [keyS, scal1] at hs)

/-- Keys that are the same. -/
theorem sameS1_eq {x y : AV} {u v : Value} (h : sameS1 x y = true) (hx : V1 ρ S w x u) (hy : V1 ρ S w y v) : u = v ∧ ∀ n, Instr.sameBits n u u = true := by
  cases x <;> cases y <;> simp only [sameS1, Bool.and_eq_true, beq_iff_eq, Bool.false_eq_true] at h
  · obtain ⟨rfl, rfl⟩ := h
    simp only [V1, P1] at hx hy; subst hx; subst hy
    exact ⟨rfl, fun n => by cases n <;> simp [Instr.sameBits]⟩
  · subst h
    simp only [V1, P1] at hx hy; subst hx; subst hy
    exact ⟨rfl, fun n => by cases n <;> simp [Instr.sameBits]⟩
  · have h := (MapKept.bytes_beq _ _).1 h
    subst h
    simp only [V1, P1] at hx hy; subst hx; subst hy
    exact ⟨rfl, fun n => by cases n <;> simp [Instr.sameBits, MapKept.bytes_beq]⟩
theorem sameSL_eq : ∀ {xs ys : List AV} {us vs : List Value}, sameSL xs ys = true → (xs.length = us.length ∧ ∀ (j : Nat) (c : AV), xs[j]? = some c → ∃ v, us[j]? = some v ∧ V1 ρ S w c v) → (ys.length = vs.length ∧ ∀ (j : Nat) (c : AV), ys[j]? = some c → ∃ v, vs[j]? = some v ∧ V1 ρ S w c v) →
    us = vs ∧ ∀ n, (us.zip us).all (fun p => Instr.sameBits n p.1 p.2) = true
  | [], [], us, vs, _, hx, hy => by
    obtain rfl : us = [] := List.eq_nil_of_length_eq_zero hx.1.symm
    obtain rfl : vs = [] := List.eq_nil_of_length_eq_zero hy.1.symm
    exact ⟨rfl, fun _ => rfl⟩
  | [], _ :: _, us, vs, h, _, _ => by simp [sameSL] at h
  | _ :: _, [], us, vs, h, _, _ => by simp [sameSL] at h
  | a :: r, b :: s, us, vs, h, hx, hy => by
    simp only [sameSL, Bool.and_eq_true] at h
    cases us with
    | nil => have := hx.1; simp at this
    | cons u us =>
      cases vs with
      | nil => have := hy.1; simp at this
      | cons v vs =>
        obtain ⟨u', hu, h1⟩ := hx.2 0 a rfl
        obtain ⟨v', hv, h2⟩ := hy.2 0 b rfl
        simp at hu hv; subst hu; subst hv
        obtain ⟨rfl, q⟩ := sameS1_eq h.1 h1 h2
        obtain ⟨rfl, q'⟩ := sameSL_eq (us := us) (vs := vs) h.2 ⟨by simpa using hx.1, fun j c hj => by simpa using hx.2 (j + 1) c (by simpa using hj)⟩ ⟨by simpa using hy.1, fun j c hj => by simpa using hy.2 (j + 1) c (by simpa using hj)⟩
        exact ⟨rfl, fun n => by simp only [List.zip_cons_cons, List.all_cons, q, q', Bool.and_self]⟩
theorem sameS_eq {x y : AV} {u v : Value} (h : sameS x y = true) (hx : V2 ρ S w x u) (hy : V2 ρ S w y v) : u = v ∧ Instr.sameBits 10000 u u = true := by
  have key : ∀ {x y : AV}, sameS1 x y = true → V2 ρ S w x u → V2 ρ S w y v → u = v ∧ Instr.sameBits 10000 u u = true := by
    intro x y h hx hy
    have h1 : V1 ρ S w x u := by cases x <;> first | exact hx | (simp [sameS1] at h)
    have h2 : V1 ρ S w y v := by cases y <;> first | exact hy | (cases x <;> simp [sameS1] at h)
    exact ⟨(sameS1_eq h h1 h2).1, (sameS1_eq h h1 h2).2 _⟩
  cases x with
  | agg xs =>
    cases y with
    | agg ys =>
      simp only [sameS] at h
      simp only [V2] at hx hy
      obtain ⟨us, rfl, hu⟩ := hx
      obtain ⟨vs, rfl, hv⟩ := hy
      obtain ⟨e, q⟩ := sameSL_eq (us := us.toList) (vs := vs.toList) h ⟨by simpa using hu.1, fun j c hj => by simpa using hu.2 j c hj⟩ ⟨by simpa using hv.1, fun j c hj => by simpa using hv.2 j c hj⟩
      refine ⟨by rw [Array.toList_inj.1 e], ?_⟩
      simp only [Instr.sameBits, beq_self_eq_true, Bool.true_and]
      exact q 9999
    | _ => simp [sameS, sameS1] at h
  | _ => cases y <;> first | exact key (by simpa only [sameS] using h) hx hy | (simp only [sameS, sameS1, Bool.false_eq_true] at h)

/-- What is found. -/
def FndR (l : List (AV × AV)) (l' : List MapEntry) (i : Nat) (r : Option (Nat × AV × AV)) (r' : Option (Nat × Value)) : Prop :=
  match r with
  | none => r' = none
  | some (j, k0, a) => ∃ n e, j = i + n ∧ l[n]? = some (k0, a) ∧ l'[n]? = some e ∧ r' = some (j, e.val)
theorem FndR.cons {l : List (AV × AV)} {l' : List MapEntry} {i : Nat} {r : Option (Nat × AV × AV)} {r' : Option (Nat × Value)} (p : AV × AV) (e : MapEntry) (h : FndR l l' (i + 1) r r') : FndR (p :: l) (e :: l') i r r' := by
  unfold FndR at h ⊢
  split at h
  · exact h
  · obtain ⟨n, e', h1, h2, h3, h4⟩ := h
    exact ⟨n + 1, e', by omega, by simpa using h2, by simpa using h3, h4⟩
def ER (S : Nat → Prop) (w : World) (l : List (AV × AV)) (l' : List MapEntry) : Prop := l.length = l'.length ∧ ∀ (j : Nat) (p : AV × AV), l[j]? = some p → ∃ e, l'[j]? = some e ∧ V2 (fun _ => .free) S w p.1 e.key ∧ V2 (fun _ => .free) S w p.2 e.val
theorem ER.tail {p : AV × AV} {e : MapEntry} {l : List (AV × AV)} {l' : List MapEntry} (h : ER S w (p :: l) (e :: l')) : ER S w l l' ∧ V2 (fun _ => .free) S w p.1 e.key ∧ V2 (fun _ => .free) S w p.2 e.val := by
  refine ⟨⟨by simpa using h.1, fun j q hj => by simpa using h.2 (j + 1) q (by simpa using hj)⟩, ?_⟩
  obtain ⟨e', h1, h2⟩ := h.2 0 p rfl
  simp at h1; subst h1; exact h2
theorem findNow_sound {t : TypeId} {x : AV} {v : Value} {d : TypeDesc} (hk : ∀ y b u, eqK P t x y = some b → V2 (fun _ => .free) S w y u → Instr.sameNow d v u = some b) : ∀ (l : List (AV × AV)) (l' : List MapEntry) (i : Nat) (r : Option (Nat × AV × AV)), ER S w l l' → findA P t x l i = some r →
    ∃ r', Instr.findNow d v l' i = some r' ∧ FndR l l' i r r'
  | [], l', i, r, hl, h => by
    obtain rfl : l' = [] := List.eq_nil_of_length_eq_zero hl.1.symm
    simp only [findA, Option.some.injEq] at h; subst h
    exact ⟨none, rfl, rfl⟩
  | p :: l, [], i, r, hl, h => by have := hl.1; simp at this
  | p :: l, e :: l', i, r, hl, h => by
    obtain ⟨k0, a0⟩ := p
    obtain ⟨ht, h1, h2⟩ := hl.tail
    simp only [findA] at h
    split at h
    · rename_i hq
      cases h
      exact ⟨some (i, e.val), by simp [Instr.findNow, hk _ _ _ hq h1], 0, e, by simp, by simp, by simp, rfl⟩
    · rename_i hq
      obtain ⟨r', e1, e2⟩ := findNow_sound hk l l' (i + 1) r ht h
      exact ⟨r', by simp [Instr.findNow, hk _ _ _ hq h1, e1], e2.cons _ _⟩
    · cases h
theorem findAsk_sound {t : TypeId} {x : AV} {v : Value} (hk : ∀ y b u, eqK P t x y = some b → V2 (fun _ => .free) S w y u → (Op.equal t v u).run P w = .ok b w) : ∀ (l : List (AV × AV)) (l' : List MapEntry) (i : Nat) (r : Option (Nat × AV × AV)), ER S w l l' → findA P t x l i = some r →
    ∃ r', (Instr.findAsking t v l' i).run P w = .ok r' w ∧ FndR l l' i r r'
  | [], l', i, r, hl, h => by
    obtain rfl : l' = [] := List.eq_nil_of_length_eq_zero hl.1.symm
    simp only [findA, Option.some.injEq] at h; subst h
    exact ⟨none, rfl, rfl⟩
  | p :: l, [], i, r, hl, h => by have := hl.1; simp at this
  | p :: l, e :: l', i, r, hl, h => by
    obtain ⟨k0, a0⟩ := p
    obtain ⟨ht, h1, h2⟩ := hl.tail
    simp only [findA] at h
    split at h
    · rename_i hq
      cases h
      exact ⟨some (i, e.val), by simp [Instr.findAsking, hk _ _ _ hq h1], 0, e, by simp, by simp, by simp, rfl⟩
    · rename_i hq
      obtain ⟨r', e1, e2⟩ := findAsk_sound hk l l' (i + 1) r ht h
      exact ⟨r', by simp [Instr.findAsking, hk _ _ _ hq h1, e1], e2.cons _ _⟩
    · cases h
theorem find_sound {t : TypeId} {x : AV} {v : Value} (hk : keyA P 8 t x = true) (hx : V2 (fun _ => .free) S w x v) {l : List (AV × AV)} {l' : List MapEntry} {r : Option (Nat × AV × AV)} (hl : ER S w l l') (h : findA P t x l 0 = some r) :
    ∃ r', (Instr.findKey t v l').run P w = .ok r' w ∧ FndR l l' 0 r r' := by
  unfold keyA at hk
  split at hk
  · rename_i hu
    have hv := int_of hx.v3
    obtain ⟨r', e1, e2⟩ := findNow_sound (t := t) (v := v) (d := .int _) (fun y b u hq hy => by
      subst hv
      cases y <;> simp only [eqK, reduceCtorEq] at hq
      rw [int_of hy.v3]
      exact hq) l l' 0 r hl h
    exact ⟨r', MapKept.run_findKey hu e1, e2⟩
  · rename_i hu
    have hv := bool_of hx.v3
    obtain ⟨r', e1, e2⟩ := findNow_sound (t := t) (v := v) (d := .bool) (fun y b u hq hy => by
      subst hv
      cases y <;> simp only [eqK, reduceCtorEq] at hq
      rw [bool_of hy.v3]
      exact hq) l l' 0 r hl h
    exact ⟨r', MapKept.run_findKey hu e1, e2⟩
  · rename_i hu
    have hv := str_of hx.v3
    obtain ⟨r', e1, e2⟩ := findNow_sound (t := t) (v := v) (d := .string) (fun y b u hq hy => by
      subst hv
      cases y <;> simp only [eqK, reduceCtorEq] at hq
      rw [str_of hy.v3]
      exact hq) l l' 0 r hl h
    exact ⟨r', MapKept.run_findKey hu e1, e2⟩
  · rename_i fs xs hu
    obtain ⟨r', e1, e2⟩ := findAsk_sound (t := t) (v := v) (fun y b u hq hy => by
      cases y <;> simp only [eqK, reduceCtorEq] at hq
      exact eqA_sound 8 t _ _ b _ _ 9992 hq hx hy) l l' 0 r hl h
    exact ⟨r', (run_findKey_eq (P := P) (w := w) (k := t) (by simp [hu]) v l').trans e1, e2⟩
  · cases hk

theorem map_of {id : Nat} {v : Value} (h : V3 ρ S w (.map id) v) {b n : Nat} (hq : ρ id = .at b n) : v = .map (some b) := by
  simp only [V3, V2, V1, hq] at h; exact h
theorem op_makeMap (C : Ctx E P K ρ S h z w lk ev g fz) (hs : h[slot]? = some .dead) {t : TypeId} {r : Option Operand} (ho : o.op = .makeMap t r) (he : eff E lk g fz slot o.op = some e) : OpGoal P K ρ S h z w ev o e := by
  rw [ho] at he; simp only [eff, C.eP] at he
  unfold OpGoal execOp; simp only [ho]
  have fin : ∀ {v : Value} {w' : World}, e = ⟨.map slot, [(slot, .map [])], []⟩ → v = .map (some w.heap.size) → w' = w.alloc (.map #[] 0) → Done K ρ S h z w e v w' := by
    rintro v w' rfl rfl rfl
    have hfree : ρ slot = .free := by have := C.mem.blk slot; rw [hs] at this; exact this
    obtain ⟨H2, X2⟩ := C.mem.newN (w' := w.alloc (.map #[] 0)) (n0 := 0) (x := .map []) hs (Nat.le_refl _) (by simp) (fun k hk => by first | exact heap_alloc_old w _ k hk | exact heap_alloc_old w _ hk) rfl rfl rfl ⟨_, #[], 0, rfl, heap_alloc_new w _, rfl, fun j p hj => by simp at hj⟩
    exact ⟨_, _, X2, H2, by simp only [V3, V2, V1, upd_same]⟩
  split at he
  · rename_i k0 e0 z0 htd hr
    simp only [Option.some.injEq] at he
    cases r with
    | none =>
      have hm : (Instr.makeMap t none).run P w = .ok (.map (some w.heap.size)) (w.alloc (.map #[] 0)) := rfl
      simp only [Option.map_none, Sem.run_bind, hm, Result.andThen_ok, Sem.run_pure]
      exact fin he.symm rfl rfl
    | some q => simp at hr
  · rename_i k0 e0 z0 q0 n0 htd hr
    simp only [Option.some.injEq] at he
    cases r with
    | none => simp at hr
    | some q =>
      simp only [Option.map_some, Option.some.injEq] at hr
      have hv := int_of (hr ▸ C.look q)
      have hm : (Instr.makeMap t (some (ev q))).run P w = .ok (.map (some w.heap.size)) (w.alloc (.map #[] 0)) := by
        rw [hv]
        simp [Instr.makeMap, run_underlying (td_map htd).1, asInt, asIntOf]
      simp only [Option.map_some, Sem.run_bind, hm, Result.andThen_ok, Sem.run_pure]
      exact fin he.symm rfl rfl
  · cases he
theorem keyS_of {x : AV} {v : Value} (hs : keyS x = true) (hx : V3 ρ S w x v) : V2 (fun _ => .free) S w x v := by
  refine keyS_v2 (ρ := ρ) (S := S) (w := w) hs ?_ _ _ _
  cases x <;> first | exact hx | (simp [keyS, scal1] at hs)
theorem V2.up {x : AV} {v : Value} (h : V2 (fun _ => .free) S w x v) : V2 ρ S w x v := h.mono (fun _ h => h) (fun _ _ => rfl) (fun _ => .inl rfl)
theorem op_lookup (C : Ctx E P K ρ S h z w lk ev g fz) {t : TypeId} {x i : Operand} {ok : Bool} (ho : o.op = .lookup t x i ok) (he : eff E lk g fz slot o.op = some e) : OpGoal P K ρ S h z w ev o e := by
  rw [ho] at he; simp only [eff, C.eP] at he
  unfold OpGoal execOp; simp only [ho]
  split at he
  · rename_i k0 e0 zz id htd hlx
    split at he
    · rename_i es hg
      split at he
      · rename_i hkey
        simp only [Bool.and_eq_true] at hkey
        obtain ⟨hu, ti, tz, hi, hz, rfl⟩ := td_map htd
        obtain ⟨b, es', clock, hq, hb, hn, hes⟩ := C.mp hg
        have hm := map_of (hlx ▸ C.look x) hq
        have hER : ER S w es es'.toList := ⟨by simpa using hn.symm, fun j p hj => by simpa using hes j p hj⟩
        have hkv := keyS_of hkey.2 (C.look i)
        have hck := keyA_sound (P := P) 8 k0 _ _ es'.isEmpty 9992 hkey.1 hkv
        have hck : (Instr.checkKey es'.isEmpty 10000 k0 (ev i)).run P w = .ok () w := hck
        have hget := MapKept.run_getObj_map (P := P) hb
        split at he
        · rename_i j kk a hf
          simp only [pur, Option.some.injEq] at he; subst he
          obtain ⟨r', hfk, n, e', h1, h2, h3, rfl⟩ := find_sound hkey.1 hkv hER hf
          obtain ⟨e2, h4, -, h5⟩ := hER.2 _ _ h2
          rw [h3] at h4; cases h4
          have hrun : (Instr.lookup t (ev x) (ev i) ok).run P w = .ok (if ok then .tuple #[e'.val, .bool true] else e'.val) w := by
            rw [hm]
            simp only [Instr.lookup, Sem.run_bind, run_underlying hu, Result.andThen_ok, hget, Sem.run_pure, hck, hfk]
          simp only [Sem.run_bind, hrun, Result.andThen_ok, Sem.run_pure]
          refine Done.pure C ?_
          cases ok
          · exact h5.up.v3
          · simp only [if_true, V3]
            refine ⟨_, rfl, rfl, fun j c hj => ?_⟩
            match j, hj with
            | 0, hj => simp at hj; subst hj; exact ⟨_, rfl, h5.up⟩
            | 1, hj => simp at hj; subst hj; exact ⟨.bool true, rfl, by simp only [V2, V1, P1]⟩
            | j + 2, hj => simp at hj
        · rename_i hf
          simp only [pur, Option.some.injEq] at he; subst he
          obtain ⟨r', hfk, rfl⟩ := find_sound hkey.1 hkv hER hf
          have hrun : (Instr.lookup t (ev x) (ev i) ok).run P w = .ok (if ok then .tuple #[tz, .bool false] else tz) w := by
            rw [hm]
            simp only [Instr.lookup, Sem.run_bind, run_underlying hu, Result.andThen_ok, hget, Sem.run_pure, hck, hfk, run_zero hi hz]
          simp only [Sem.run_bind, hrun, Result.andThen_ok, Sem.run_pure]
          refine Done.pure C ?_
          have h5 : V2 ρ S w (ofVal tz) tz := ofVal_sound tz
          cases ok
          · exact h5.v3
          · simp only [if_true, V3]
            refine ⟨_, rfl, rfl, fun j c hj => ?_⟩
            match j, hj with
            | 0, hj => simp at hj; subst hj; exact ⟨_, rfl, h5⟩
            | 1, hj => simp at hj; subst hj; exact ⟨.bool false, rfl, by simp only [V2, V1, P1]⟩
            | j + 2, hj => simp at hj
        · cases he
      · cases he
    · cases he
  · cases he
/-- A map's block is written. -/
theorem Done.writeM (C : Ctx E P K ρ S h z w lk ev g fz) {f : List Nat} {id b clock clock' : Nat} {es es' : Array MapEntry} {l : List (AV × AV)} {w' : World} (hi : ρ id = .at b 0) (hz : z.getD id false = false) (hf : id ∉ f) (hb : w.heap[b]? = some (.map es clock))
    (hw : w' = { w with heap := w.heap.setIfInBounds b (.map es' clock') }) (hl : es'.size = l.length) (hes : ∀ (j : Nat) (p : AV × AV), l[j]? = some p → ∃ e, es'[j]? = some e ∧ V2 (fun _ => .free) (Sf S ρ f) w p.1 e.key ∧ V2 (fun _ => .free) (Sf S ρ f) w p.2 e.val) :
    Done K ρ S h z w ⟨.undef, [(id, .map l)], f⟩ Go.undef w' := by
  subst hw
  obtain ⟨H1, X1⟩ := C.mem.freeze f
  have hz' : (frzAll z f).getD id false = false := by rw [frzAll_not f z id hf]; exact hz
  obtain ⟨g1, g2⟩ := MapKept.heap_set (o' := .map es' clock') hb
  have hS : ∀ k, Sf S ρ f k → ({ w with heap := w.heap.setIfInBounds b (.map es' clock') } : World).heap[k]? = w.heap[k]? := fun k hk => g2 k fun q => by
    subst q
    rcases hk with hk | ⟨i, hi', m, hm⟩
    · exact C.mem.own _ _ _ hi hz hk
    · exact hf (C.mem.inj _ _ _ _ _ hm hi ▸ hi')
  obtain ⟨H2, X2⟩ := H1.writeN (w' := { w with heap := w.heap.setIfInBounds b (.map es' clock') }) (x := .map l) hi hz' (by simp) (fun k hk => g2 k hk) rfl rfl rfl ⟨b, es', clock', rfl, g1, hl, fun j p hj => let ⟨e, h1, h2, h3⟩ := hes j p hj; ⟨e, h1, h2.mono (fun _ h => h) hS (fun _ => .inl rfl), h3.mono (fun _ h => h) hS (fun _ => .inl rfl)⟩⟩
  exact ⟨_, _, X1.trans X2, H2, by simp only [V3, V2]⟩
theorem run_update_map (C : Ctx E P K ρ S h z w lk ev g fz) {t : TypeId} {m i x : Operand} (he : eff E lk g fz slot (.mapUpdate t m i x) = some e) : ∃ w', (Instr.mapUpdate t (ev m) (ev i) (ev x)).run P w = .ok () w' ∧ Done K ρ S h z w e Go.undef w' := by
  simp only [eff, C.eP] at he
  split at he
  · rename_i k0 e0 zz id htd hlx
    split at he
    · rename_i hfz
      split at he
      · rename_i es hg
        split at he
        · rename_i hkey
          simp only [Bool.and_eq_true] at hkey
          split at he
          · rename_i a f hre
            split at he
            · cases he
            · rename_i hcf
              obtain ⟨hu, -⟩ := td_map htd
              obtain ⟨b, es', clock, hq, hb, hn, hes⟩ := C.mp hg
              have hm := map_of (hlx ▸ C.look m) hq
              have hz := C.frz id (by simpa using hfz)
              have hidf : id ∉ f := by simpa using hcf
              have hER : ER S w es es'.toList := ⟨by simpa using hn.symm, fun j p hj => by simpa using hes j p hj⟩
              have hkv := keyS_of hkey.2 (C.look i)
              have hck : (Instr.checkKey false 10000 k0 (ev i)).run P w = .ok () w := keyA_sound (P := P) 8 k0 _ _ false 9992 hkey.1 hkv
              have hget := MapKept.run_getObj_map (P := P) hb
              have hav : V2 (fun _ => .free) (Sf S ρ f) w a (ev x) := reify_sound C hre (C.look x)
              have hkv' : V2 (fun _ => .free) (Sf S ρ f) w (lk i) (ev i) := keyS_v2 hkey.2 hkv _ _ _
              have upS : ∀ {y : AV} {v : Value}, V2 (fun _ => .free) S w y v → V2 (fun _ => .free) (Sf S ρ f) w y v := fun h => h.mono (fun _ h => .inl h) (fun _ _ => rfl) (fun _ => .inl rfl)
              split at he
              · rename_i j kk a' hf
                split at he
                · rename_i hss
                  simp only [Option.some.injEq] at he; subst he
                  obtain ⟨r', hfk, n, e', h1, h2, h3, rfl⟩ := find_sound hkey.1 hkv hER hf
                  obtain rfl : j = n := by omega
                  obtain ⟨e2, h4, h6, h5⟩ := hER.2 _ _ h2
                  rw [h3] at h4; cases h4
                  obtain ⟨hk1, hk2⟩ := sameS_eq hss h6 hkv
                  have hst : (Instr.keyThatStays e'.key (ev i)).run P w = .ok (ev i) w := by
                    rw [← hk1]; unfold Instr.keyThatStays; rw [if_pos hk2]; rfl
                  have hkd : ((es'[j]?).map (·.key)).getD (ev i) = e'.key := by rw [show es'[j]? = some e' by simpa using h3]; rfl
                  refine ⟨_, ?_, Done.writeM C hq hz hidf hb (clock' := clock) (es' := es'.modify j fun e => { e with key := ev i, val := ev x }) rfl (by simpa using hn) ?_⟩
                  · rw [hm]
                    simp only [Instr.mapUpdate, Sem.run_bind, run_underlying hu, Result.andThen_ok, hget, hck, hfk, hkd, hst, MapKept.run_setObj_map _ hb]
                  · intro q p hp
                    rw [List.getElem?_set] at hp
                    rw [Array.getElem?_modify]
                    by_cases hjq : j = q
                    · subst hjq
                      simp only [if_true] at hp ⊢
                      split at hp
                      · cases hp
                        exact ⟨_, by rw [show es'[j]? = some e' by simpa using h3]; rfl, hkv', hav⟩
                      · cases hp
                    · rw [if_neg hjq] at hp ⊢
                      obtain ⟨e3, q1, q2, q3⟩ := hes q p hp
                      exact ⟨e3, q1, upS q2, upS q3⟩
                · cases he
              · rename_i hf
                simp only [Option.some.injEq] at he; subst he
                obtain ⟨r', hfk, rfl⟩ := find_sound hkey.1 hkv hER hf
                refine ⟨_, ?_, Done.writeM C hq hz hidf hb (clock' := clock + 1) (es' := es'.push { key := ev i, val := ev x, born := clock }) rfl (by simp [hn]) ?_⟩
                · rw [hm]
                  simp only [Instr.mapUpdate, Sem.run_bind, run_underlying hu, Result.andThen_ok, hget, hck, hfk, MapKept.run_setObj_map _ hb]
                · intro q p hp
                  rw [List.getElem?_append] at hp
                  rw [Array.getElem?_push]
                  split at hp
                  · rename_i hlt
                    rw [if_neg (by omega)]
                    obtain ⟨e3, q1, q2, q3⟩ := hes q p hp
                    exact ⟨e3, q1, upS q2, upS q3⟩
                  · rename_i hlt
                    have hq0 : q = es.length := by
                      have := (List.getElem?_eq_some_iff.1 hp).1
                      simp at this; omega
                    subst hq0
                    rw [if_pos hn.symm]
                    simp at hp; subst hp
                    exact ⟨_, rfl, hkv', hav⟩
              · cases he
          · cases he
        · cases he
      · cases he
    · cases he
  · cases he
theorem op_mapUpdate (C : Ctx E P K ρ S h z w lk ev g fz) {t : TypeId} {m i x : Operand} (ho : o.op = .mapUpdate t m i x) (he : eff E lk g fz slot o.op = some e) : OpGoal P K ρ S h z w ev o e := by
  rw [ho] at he
  obtain ⟨w', h1, h2⟩ := run_update_map C he
  unfold OpGoal execOp; simp only [ho, Sem.run_bind, h1, Result.andThen_ok, Sem.run_pure]
  exact h2
theorem op_insert (C : Ctx E P K ρ S h z w lk ev g fz) {t : TypeId} {m i x : Operand} (ho : o.op = .insert t m i x) (he : eff E lk g fz slot o.op = some e) : OpGoal P K ρ S h z w ev o e := by
  rw [ho] at he
  obtain ⟨w', h1, h2⟩ := run_update_map C (slot := slot) (fz := fz) (g := g) (t := t) (m := m) (i := i) (x := x) he
  unfold OpGoal execOp; simp only [ho, Sem.run_bind, h1, Result.andThen_ok, Sem.run_pure]
  exact h2
end
/- Calls of functions. -/

def none' : Nat → Loc := fun _ => .free
/-- Values beside values. -/
def LR (R : AV → Value → Prop) (cs : List AV) (vs : List Value) : Prop := cs.length = vs.length ∧ ∀ (j : Nat) (c : AV), cs[j]? = some c → ∃ v, vs[j]? = some v ∧ R c v

/-- A function with a body of Go. -/
def Body (P : Program) (f : FuncId) : Prop := ∃ fn, P.funcs[f]? = some fn ∧ fn.body.isSome = true ∧ (fn.name == "runtime.NumGoroutine") = false

/-- By value: whatever world it is called in, the function returns this of these. -/
def OkV (P : Program) (f : FuncId) (as : List AV) (r : AV) : Prop :=
  Body P f ∧ ∀ (S : Nat → Prop) (w : World) (args : List Value), (∀ b, S b → b < w.heap.size) → LR (V2 none' S w) as args →
    Calls P f args.toArray w (fun e w' => ∃ v S', e = .returned v ∧ V3 none' S' w' r v ∧ ExtV S S' w w')
/-- By reference: the function is handed blocks of the call's own, and hands them back. -/
def OkR (P : Program) (f : FuncId) (as : List AV) (h : List Blk) (z : List Bool) (r : AV) (h' : List Blk) (z' : List Bool) : Prop :=
  Body P f ∧ ∀ (K : Nat → Prop) (ρ : Nat → Loc) (S : Nat → Prop) (w : World) (args : List Value), Heap K ρ S h z w → LR (V3 ρ S w) as args →
    Calls P f args.toArray w (fun e w' => ∃ v ρ' S', e = .returned v ∧ V3 ρ' S' w' r v ∧ Heap K ρ' S' h' z' w' ∧ Ext K S S' ρ ρ' w w')

/-- A function without a body of Go: what the machine gives back of these, in whatever world. -/
def OkX (P : Program) (f : FuncId) (as : List AV) (r : AV) : Prop :=
  refs r = false ∧ ∀ (S : Nat → Prop) (w : World) (args : List Value), LR (V2 none' S w) as args → ∃ v, (callFunc f args.toArray).run P w = .ok (.value v) w ∧ V3 none' S w r v

/-- A function value that yields these, one after the other, to whoever ranges over it. -/
def SeqOk (P : Program) (g : FuncId) (cs : List AV) (xss : List (List AV)) : Prop :=
  Body P g ∧ ∀ (S : Nat → Prop) (w : World) (lb : List Value), (∀ b, S b → b < w.heap.size) → PL S w cs lb →
    ∀ (l : Nat) (J : Nat → World → Prop) (Jx : World → Prop) (W : World),
        (∀ k W, J k W → ∀ b, S b → W.heap[b]? = w.heap[b]?) →
        (∀ k W W', J k W → ExtV (fun _ => False) (fun _ => False) W W' → J k W') → (∀ W W', Jx W → ExtV (fun _ => False) (fun _ => False) W W' → Jx W') →
        (∀ (k : Nat) (xs : List AV) (vs : List Value) (W1 : World), J k W1 → xss[k]? = some xs → LR (V2 none' S W1) xs vs → YieldAt Fence.wide 0 P l vs.toArray W1 (fun e W' => (e = .returned (.bool true) ∧ J (k + 1) W') ∨ (e = .returned (.bool false) ∧ Jx W'))) →
        J 0 W → Calls P g (#[.func (.yield l) #[] #[]] ++ lb.toArray) W (fun e W' => (∃ v, e = .returned v) ∧ (J xss.length W' ∨ Jx W'))

structure EnvOk (E : Env) (P : Program) : Prop where
  eP : E.P = P
  call : ∀ f as r, E.call f as = some r → OkV P f as r ∨ OkX P f as r
  callR : ∀ f as h z r h' z', E.callR f as h z = some (r, h', z') → OkR P f as h z r h' z'
  seq : ∀ g cs xss, E.seq g cs = some xss → SeqOk P g cs xss

section
variable {K S : Nat → Prop} {w : World} {ρ : Nat → Loc} {P : Program} {E : Env} {h : List Blk} {z : List Bool} {lk : Operand → AV} {ev : Operand → Value} {g : Nat → Option Blk} {fz : Nat → Bool} {slot : Nat} {o : Oper} {e : Eff}

theorem run_program' (w : World) : (program).run P w = .ok P w := rfl
theorem run_callF {f : FuncId} (hb : Body P f) {c : Call} {x : Operand} (hc : c.callee = .value x) (hx : ev x = .func (.func f) #[] #[]) (ty : TypeId) (w : World) :
    (do let d ← resolve ev c ty; invoke d.target d.args : Sem Next).run P w = .ok (.enter f (c.args.toList.map ev).toArray) w := by
  obtain ⟨fn, h1, h2, h3⟩ := hb
  have h2' : fn.body.isNone = false := by cases hq : fn.body <;> simp_all
  have hm : c.args.map ev = (c.args.toList.map ev).toArray := by apply Array.ext'; simp
  simp only [resolve, hc, hx, Deferred.ofValue, Sem.run_bind, Sem.run_pure, Result.andThen_ok, invoke, callFunc, run_program', h1, h3, h2', Bool.false_eq_true, if_false, Array.empty_append, Array.append_empty, hm]

theorem run_callX {f : FuncId} {c : Call} {x : Operand} (hc : c.callee = .value x) (hx : ev x = .func (.func f) #[] #[]) (ty : TypeId) (w : World) :
    (do let d ← resolve ev c ty; invoke d.target d.args : Sem Next).run P w = (callFunc f (c.args.toList.map ev).toArray).run P w := by
  have hm : c.args.map ev = (c.args.toList.map ev).toArray := by apply Array.ext'; simp
  simp only [resolve, hc, hx, Deferred.ofValue, Sem.run_bind, Sem.run_pure, Result.andThen_ok, invoke, Array.empty_append, Array.append_empty, hm]

theorem refs1_free {S S' : Nat → Prop} {w w' : World} {c : AV} {v : Value} (hr : refs1 c = false) (hv : V1 none' S w c v) : V1 ρ S' w' c v := by
  cases c <;> simp only [refs1, reduceCtorEq] at hr <;> first
    | (simp only [V1, P1] at hv ⊢; done)
    | (simp only [V1, P1] at hv; done)
    | (simp only [V1, P1] at hv ⊢; exact hv)
    | (simp only [V1, none'] at hv; done)
theorem refs2_free {S S' : Nat → Prop} {w w' : World} {c : AV} {v : Value} (hr : refs2 c = false) (hv : V2 none' S w c v) : V2 ρ S' w' c v := by
  cases c with
  | agg cs =>
    simp only [V2] at hv ⊢
    obtain ⟨vs, rfl, hc⟩ := hv
    refine ⟨vs, rfl, hc.1, fun j c hj => ?_⟩
    obtain ⟨v, a, b⟩ := hc.2 j c hj
    have : refs1 c = false := by
      have := List.any_eq_false.1 hr c (List.mem_of_getElem? hj); simpa using this
    exact ⟨v, a, refs1_free this b⟩
  | any => trivial
  | undef => simpa only [V2] using hv
  | _ => simp only [V2, refs2] at hv hr ⊢; exact refs1_free hr hv
theorem refs_free {S S' : Nat → Prop} {w w' : World} {c : AV} {v : Value} (hr : refs c = false) (hv : V3 none' S w c v) : V3 ρ S' w' c v := by
  cases c with
  | tup us =>
    simp only [V3] at hv ⊢
    obtain ⟨vs, rfl, hc⟩ := hv
    refine ⟨vs, rfl, hc.1, fun j c hj => ?_⟩
    obtain ⟨v, a, b⟩ := hc.2 j c hj
    have : refs2 c = false := by
      have := List.any_eq_false.1 hr c (List.mem_of_getElem? hj); simpa using this
    exact ⟨v, a, refs2_free this b⟩
  | _ => simp only [V3, refs] at hv hr ⊢; exact refs2_free hr hv

theorem op_callV (C : Ctx E P K ρ S h z w lk ev g fz) (hE : EnvOk E P) {c : Call} {x : Operand} {f : FuncId} (ho : o.op = .call c) (hc : c.callee = .value x) (hf : lk x = .fn f) (href : (isF x && E.ref f) = false) (he : eff E lk g fz slot o.op = some e) : OpGoal P K ρ S h z w ev o e := by
  rw [ho] at he; simp only [eff, hc, hf, href, Bool.false_eq_true, if_false] at he
  have hx := fn_of (hf ▸ C.look x)
  cases hr : reifyA g (c.args.toList.map lk) with
  | none => simp [hr] at he
  | some p =>
    obtain ⟨as, fr⟩ := p
    simp only [hr] at he
    cases hcall : E.call f as with
    | none => simp [hcall] at he
    | some r =>
      simp only [hcall, Option.some.injEq] at he
      have hargs := reifyA_sound C hr (vs := c.args.toList.map ev) ⟨by simp, fun j d hj => by
        rw [List.getElem?_map] at hj
        cases hq : c.args.toList[j]? with
        | none => simp [hq] at hj
        | some y => simp only [hq, Option.map_some, Option.some.injEq] at hj; subst hj; exact ⟨ev y, by simp [List.getElem?_map, hq], C.look y⟩⟩
      obtain ⟨H1, X1⟩ := C.mem.freeze fr
      rcases hE.call f as r hcall with ⟨hb, hok⟩ | ⟨hrf, hok⟩
      case inr =>
        obtain ⟨v, hv1, hv2⟩ := hok (Sf S ρ fr) w _ hargs
        unfold OpGoal execOp; simp only [ho]
        rw [run_callX hc hx, hv1]
        rw [if_neg (by rw [hrf]; exact Bool.false_ne_true)] at he; subst he
        exact Done.pure C (refs_free hrf hv2)
      unfold OpGoal execOp; simp only [ho]
      rw [run_callF hb hc hx]
      refine (hok (Sf S ρ fr) w _ H1.sb hargs).mono fun en w' ⟨v, S', hen, hv, X⟩ => ⟨v, hen, ?_⟩
      by_cases hrf : refs r = true
      · rw [if_pos hrf] at he; subst he
        obtain ⟨H2, X2⟩ := H1.later X
        exact ⟨ρ, S', X1.trans X2, H2, hv.mono (fun _ h => h) (fun _ _ => rfl) (fun _ => .inl rfl)⟩
      · rw [if_neg hrf] at he; subst he
        have X' : ExtV S S w w' := ⟨X.os, X.tape, X.output, X.size, X.old, fun _ h => h, fun _ h => .inl h, fun b hb => Nat.lt_of_lt_of_le (C.mem.sb b hb) X.size⟩
        obtain ⟨H2, X2⟩ := C.mem.later X'
        exact ⟨ρ, S, X2, H2, refs_free (by simpa using hrf) hv⟩
theorem PL.get : ∀ {cs : List AV} {vs : List Value}, PL S w cs vs → LR (P1 S w) cs vs
  | [], vs, h => by
    simp only [PL] at h
    subst h
    exact ⟨rfl, fun j c hj => by simp at hj⟩
  | c :: cs, vs, h => by
    simp only [PL] at h
    obtain ⟨v, t, rfl, h1, h2⟩ := h
    have ih := PL.get h2
    refine ⟨by simp [ih.1], fun j d hj => ?_⟩
    cases j with
    | zero => simp at hj; subst hj; exact ⟨v, rfl, h1⟩
    | succ j => obtain ⟨u, hu, hd⟩ := ih.2 j d (by simpa using hj); exact ⟨u, by simpa using hu, hd⟩
theorem LR.append {R : AV → Value → Prop} {as bs : List AV} {us vs : List Value} (h : LR R as us) (k : LR R bs vs) : LR R (as ++ bs) (us ++ vs) := by
  refine ⟨by simp [h.1, k.1], fun j c hj => ?_⟩
  rw [List.getElem?_append] at hj
  split at hj
  · rename_i hl
    obtain ⟨v, hv, hc⟩ := h.2 j c hj
    exact ⟨v, by rw [List.getElem?_append_left (by rw [← h.1]; exact hl)]; exact hv, hc⟩
  · rename_i hl
    obtain ⟨v, hv, hc⟩ := k.2 _ c hj
    exact ⟨v, by rw [List.getElem?_append_right (by rw [← h.1]; omega), ← h.1]; exact hv, hc⟩
theorem run_callCF {f : FuncId} (hb : Body P f) {c : Call} {x : Operand} {vs : List Value} (hc : c.callee = .value x) (hx : ev x = .func (.func f) #[] vs.toArray) (ty : TypeId) (w : World) :
    (do let d ← resolve ev c ty; invoke d.target d.args : Sem Next).run P w = .ok (.enter f (c.args.toList.map ev ++ vs).toArray) w := by
  obtain ⟨fn, h1, h2, h3⟩ := hb
  have h2' : fn.body.isNone = false := by cases hq : fn.body <;> simp_all
  have hm : c.args.map ev ++ vs.toArray = (c.args.toList.map ev ++ vs).toArray := by apply Array.ext'; simp
  simp only [resolve, hc, hx, Deferred.ofValue, Sem.run_bind, Sem.run_pure, Result.andThen_ok, invoke, callFunc, run_program', h1, h3, h2', Bool.false_eq_true, if_false, Array.empty_append, hm]
theorem run_callCX {f : FuncId} {c : Call} {x : Operand} {vs : List Value} (hc : c.callee = .value x) (hx : ev x = .func (.func f) #[] vs.toArray) (ty : TypeId) (w : World) :
    (do let d ← resolve ev c ty; invoke d.target d.args : Sem Next).run P w = (callFunc f (c.args.toList.map ev ++ vs).toArray).run P w := by
  have hm : c.args.map ev ++ vs.toArray = (c.args.toList.map ev ++ vs).toArray := by apply Array.ext'; simp
  simp only [resolve, hc, hx, Deferred.ofValue, Sem.run_bind, Sem.run_pure, Result.andThen_ok, invoke, Array.empty_append, hm]
/-- A call of a function value that has taken values with it. -/
theorem op_callC (C : Ctx E P K ρ S h z w lk ev g fz) (hE : EnvOk E P) {c : Call} {x : Operand} {f : FuncId} {cs : List AV} (ho : o.op = .call c) (hc : c.callee = .value x) (hf : lk x = .clo f cs) (he : eff E lk g fz slot o.op = some e) : OpGoal P K ρ S h z w ev o e := by
  rw [ho] at he; simp only [eff, hc, hf] at he
  have hx0 := C.look x
  rw [hf] at hx0
  simp only [V3, V2, V1, P1] at hx0
  obtain ⟨cvs, hx, hpl⟩ := hx0
  cases hr : reifyA g (c.args.toList.map lk) with
  | none => simp [hr] at he
  | some p =>
    obtain ⟨as, fr⟩ := p
    simp only [hr] at he
    cases hcall : E.call f (as ++ cs) with
    | none => simp [hcall] at he
    | some r =>
      simp only [hcall, Option.some.injEq] at he
      have hargs0 := reifyA_sound C hr (vs := c.args.toList.map ev) ⟨by simp, fun j d hj => by
        rw [List.getElem?_map] at hj
        cases hq : c.args.toList[j]? with
        | none => simp [hq] at hj
        | some y => simp only [hq, Option.map_some, Option.some.injEq] at hj; subst hj; exact ⟨ev y, by simp [List.getElem?_map, hq], C.look y⟩⟩
      have hcs : LR (V2 none' (Sf S ρ fr) w) cs cvs := by
        have q := hpl.get
        exact ⟨q.1, fun j d hj => let ⟨v, a, b⟩ := q.2 j d hj; ⟨v, a, (P1.v1 (P1.mono (fun _ h => .inl h) (fun _ _ => rfl) _ _ b)).v2⟩⟩
      have hargs : LR (V2 none' (Sf S ρ fr) w) (as ++ cs) (c.args.toList.map ev ++ cvs) := LR.append hargs0 hcs
      obtain ⟨H1, X1⟩ := C.mem.freeze fr
      rcases hE.call f _ r hcall with ⟨hb, hok⟩ | ⟨hrf, hok⟩
      case inr =>
        obtain ⟨v, hv1, hv2⟩ := hok (Sf S ρ fr) w _ hargs
        unfold OpGoal execOp; simp only [ho]
        rw [run_callCX hc hx, hv1]
        rw [if_neg (by rw [hrf]; exact Bool.false_ne_true)] at he; subst he
        exact Done.pure C (refs_free hrf hv2)
      unfold OpGoal execOp; simp only [ho]
      rw [run_callCF hb hc hx]
      refine (hok (Sf S ρ fr) w _ H1.sb hargs).mono fun en w' ⟨v, S', hen, hv, X⟩ => ⟨v, hen, ?_⟩
      by_cases hrf : refs r = true
      · rw [if_pos hrf] at he; subst he
        obtain ⟨H2, X2⟩ := H1.later X
        exact ⟨ρ, S', X1.trans X2, H2, hv.mono (fun _ h => h) (fun _ _ => rfl) (fun _ => .inl rfl)⟩
      · rw [if_neg hrf] at he; subst he
        have X' : ExtV S S w w' := ⟨X.os, X.tape, X.output, X.size, X.old, fun _ h => h, fun _ h => .inl h, fun b hb => Nat.lt_of_lt_of_le (C.mem.sb b hb) X.size⟩
        obtain ⟨H2, X2⟩ := C.mem.later X'
        exact ⟨ρ, S, X2, H2, refs_free (by simpa using hrf) hv⟩
theorem args2a {f : Operand → AV} {l : Array Operand} {x y : AV} (h : l.toList.map f = [x, y]) : ∃ a b, l = #[a, b] ∧ f a = x ∧ f b = y := by
  obtain ⟨l⟩ := l
  match l, h with
  | [a, b], h => simp at h; exact ⟨a, b, rfl, h.1, h.2⟩
theorem op_minmax (C : Ctx E P K ρ S h z w lk ev g fz) {c : Call} {b : Builtin} (ho : o.op = .call c) (hc : c.callee = .builtin b) (hb : b = .min ∨ b = .max) (he : eff E lk g fz slot o.op = some e) : OpGoal P K ρ S h z w ev o e := by
  rw [ho] at he
  unfold OpGoal execOp; simp only [ho]
  rcases hb with rfl | rfl
  · simp only [eff, hc] at he
    split at he
    · rename_i k a k' b ha
      obtain ⟨x, y, hxy, hlx, hly⟩ := args2a ha
      simp only [pur, Option.some.injEq] at he; subst he
      have hr : (do let d ← resolve ev c o.type; invoke d.target d.args : Sem Next).run P w = .ok (.value (.int k (if b < a then b else a))) w := by
        simp only [resolve, hc, Sem.run_bind, Sem.run_pure, Result.andThen_ok, invoke, builtin, hxy, List.map_toArray, List.map_cons, List.map_nil, int_of (hlx ▸ C.look x), int_of (hly ▸ C.look y), run_min_int2]
      rw [hr]
      exact Done.pure C (by simp only [V3, V2, V1, P1])
    · cases he
  · simp only [eff, hc] at he
    split at he
    · rename_i k a k' b ha
      obtain ⟨x, y, hxy, hlx, hly⟩ := args2a ha
      simp only [pur, Option.some.injEq] at he; subst he
      have hr : (do let d ← resolve ev c o.type; invoke d.target d.args : Sem Next).run P w = .ok (.value (.int k (if b > a then b else a))) w := by
        simp only [resolve, hc, Sem.run_bind, Sem.run_pure, Result.andThen_ok, invoke, builtin, hxy, List.map_toArray, List.map_cons, List.map_nil, int_of (hlx ▸ C.look x), int_of (hly ▸ C.look y), run_max_int2]
      rw [hr]
      exact Done.pure C (by simp only [V3, V2, V1, P1])
    · cases he
theorem PL.of : ∀ {cs : List AV} {vs : List Value}, (cs.length = vs.length ∧ ∀ (j : Nat) (c : AV), cs[j]? = some c → ∃ v, vs[j]? = some v ∧ P1 S w c v) → PL S w cs vs
  | [], vs, h => by
    have : vs = [] := List.eq_nil_of_length_eq_zero h.1.symm
    simpa only [PL] using this
  | c :: cs, [], h => by have := h.1; simp at this
  | c :: cs, v :: vs, h => by
    simp only [PL]
    obtain ⟨u, hu, hc⟩ := h.2 0 c rfl
    simp at hu; subst hu
    exact ⟨_, vs, rfl, hc, PL.of ⟨by simpa using h.1, fun j d hj => by simpa using h.2 (j + 1) d (by simpa using hj)⟩⟩
theorem cap1_sound (C : Ctx E P K ρ S h z w lk ev g fz) {c r : AV} {f : List Nat} {v : Value} (hr : cap1 g c = some (r, f)) (hv : V1 ρ S w c v) : P1 (Sf S ρ f) w r v := by
  cases c with
  | ptr id off =>
    simp only [cap1] at hr
    split at hr
    · rename_i cs hg
      split at hr
      · rename_i hp
        simp only [Option.some.injEq, Prod.mk.injEq] at hr
        obtain ⟨rfl, rfl⟩ := hr
        obtain ⟨b, ccs, e, hq, hb, hc⟩ := C.obj hg
        simp only [V1] at hv
        rw [hq] at hv; simp only at hv; subst hv
        simp only [P1]
        refine ⟨b, 0, by simp, .inr ⟨id, by simp, _, hq⟩, PC.of fun j c hj => ?_⟩
        obtain ⟨v, hv, h1⟩ := hc j c hj
        have hpl := List.all_eq_true.1 hp c (List.mem_of_getElem? hj)
        refine ⟨v, by simp [World.cell?, hb, hv], P1.mono (fun _ h => .inl h) (fun _ _ => rfl) _ _ ?_⟩
        cases c <;> simp only [plain1, Bool.false_eq_true] at hpl <;> exact h1
      · cases hr
    · cases hr
  | _ => simp only [cap1] at hr; exact reify1_sound C hr hv
theorem capL_sound (C : Ctx E P K ρ S h z w lk ev g fz) : ∀ {cs rs : List AV} {f : List Nat} {vs : List Value}, capL g cs = some (rs, f) → (cs.length = vs.length ∧ ∀ (j : Nat) (c : AV), cs[j]? = some c → ∃ v, vs[j]? = some v ∧ V3 ρ S w c v) →
    rs.length = vs.length ∧ ∀ (j : Nat) (c : AV), rs[j]? = some c → ∃ v, vs[j]? = some v ∧ P1 (Sf S ρ f) w c v
  | [], rs, f, vs, hr, hv => by
    simp only [capL, Option.some.injEq, Prod.mk.injEq] at hr
    obtain ⟨rfl, rfl⟩ := hr
    exact ⟨hv.1, fun j c hj => by simp at hj⟩
  | c :: cs, rs, f, vs, hr, hv => by
    simp only [capL] at hr
    cases h1 : cap1 g c with
    | none => simp [h1] at hr
    | some p =>
      obtain ⟨r, a⟩ := p
      cases h2 : capL g cs with
      | none => simp [h1, h2] at hr
      | some q =>
        obtain ⟨rs', b⟩ := q
        simp only [h1, h2, Option.some.injEq, Prod.mk.injEq] at hr
        obtain ⟨rfl, rfl⟩ := hr
        cases vs with
        | nil => simp at hv
        | cons v vs =>
          obtain ⟨u, hu, hc⟩ := hv.2 0 c rfl
          simp at hu; subst hu
          have hc1 : V1 ρ S w c v := by
            cases c <;> first | (simp only [cap1, reify1, reduceCtorEq] at h1; done) | exact hc
          have ih := capL_sound C (vs := vs) h2 ⟨by simpa using hv.1, fun j c hj => by simpa using hv.2 (j + 1) c (by simpa using hj)⟩
          refine ⟨by simp [ih.1], fun j d hj => ?_⟩
          cases j with
          | zero => simp at hj; subst hj; exact ⟨v, rfl, (cap1_sound C h1 hc1).sf (by simp; intro i hi; exact .inl hi)⟩
          | succ j =>
            obtain ⟨u, hu, hd⟩ := ih.2 j d (by simpa using hj)
            exact ⟨u, by simpa using hu, hd.sf (by simp; intro i hi; exact .inr hi)⟩
theorem op_makeFunc (C : Ctx E P K ρ S h z w lk ev g fz) {f : Fn} {first cap : Array Operand} (ho : o.op = .makeFunc f first cap) (he : eff E lk g fz slot o.op = some e) : OpGoal P K ρ S h z w ev o e := by
  rw [ho] at he; simp only [eff] at he
  split at he
  · rename_i g' hsz
    cases hc : capL g (cap.toList.map lk) with
    | none => simp [hc] at he
    | some p =>
      obtain ⟨cs, fr⟩ := p
      simp only [hc, Option.some.injEq] at he; subst he
      obtain ⟨H1, X1⟩ := C.mem.freeze fr
      have hl := capL_sound C hc (vs := cap.toList.map ev) ⟨by simp, fun j d hj => by
        rw [List.getElem?_map] at hj
        cases hq : cap.toList[j]? with
        | none => simp [hq] at hj
        | some y => simp only [hq, Option.map_some, Option.some.injEq] at hj; subst hj; exact ⟨ev y, by simp [List.getElem?_map, hq], C.look y⟩⟩
      have hfirst : first = #[] := Array.eq_empty_of_size_eq_zero hsz
      have hm : cap.map ev = (cap.toList.map ev).toArray := by apply Array.ext'; simp
      unfold OpGoal execOp; simp only [ho]
      subst hfirst
      have hr : (Instr.makeFunc (.func g') ((#[] : Array Operand).map ev) (cap.map ev)).run P w = .ok (.func (.func g') #[] (cap.toList.map ev).toArray) w := by
        rw [hm]; simp [Instr.makeFunc]
      simp only [Sem.run_bind, hr, Result.andThen_ok, Sem.run_pure]
      exact ⟨ρ, Sf S ρ fr, X1, H1, by simp only [V3, V2, V1, P1]; exact ⟨_, rfl, PL.of hl⟩⟩
  · cases he
end
/- Blocks under other numbers. -/
section
variable {K S : Nat → Prop} {w : World} {ρ ρ' : Nat → Loc} {h : List Blk} {z : List Bool} {f : Nat → Option Nat}

theorem pos_get : ∀ {l : List Nat} {i j : Nat}, pos? l i = some j → l[j]? = some i
  | [], _, _, h => by simp [pos?] at h
  | a :: r, i, j, h => by
    simp only [pos?] at h
    split at h
    · rename_i e; cases h; simp [e]
    · obtain ⟨k, hk, rfl⟩ := Option.map_eq_some_iff.1 h
      simpa using pos_get hk
theorem pos_some : ∀ {l : List Nat} {i j : Nat}, l.Nodup → l[j]? = some i → pos? l i = some j
  | [], _, _, _, h => by simp at h
  | a :: r, i, 0, _, h => by simp at h; simp [pos?, h]
  | a :: r, i, j + 1, hn, h => by
    simp only [List.getElem?_cons_succ] at h
    have hne : a ≠ i := fun e => (List.nodup_cons.1 hn).1 (e ▸ List.mem_of_getElem? h)
    simp only [pos?, if_neg hne, pos_some (List.nodup_cons.1 hn).2 h, Option.map_some]
theorem nodupB_spec : ∀ {l : List Nat}, nodupB l = true → l.Nodup
  | [], _ => List.nodup_nil
  | a :: r, h => by
    simp only [nodupB, Bool.and_eq_true, Bool.not_eq_true'] at h
    exact List.nodup_cons.2 ⟨(fun hm => by have := h.1; rw [List.contains_iff_mem.2 hm] at this; cases this), nodupB_spec h.2⟩
theorem addNew_nodup : ∀ (r acc : List Nat), acc.Nodup → (addNew acc r).Nodup
  | [], acc, h => h
  | i :: r, acc, h => by
    rw [addNew]
    refine addNew_nodup r _ ?_
    split
    · exact h
    · rename_i hc
      rw [List.nodup_append]
      refine ⟨h, by simp, fun a ha b hb => ?_⟩
      simp at hb; subst hb
      rintro rfl
      exact hc (List.contains_iff_mem.2 ha)
theorem reach_nodup (g : Nat → Option Blk) : ∀ (k : Nat) (l : List Nat), l.Nodup → (reach g k l).Nodup
  | 0, l, h => h
  | k + 1, l, h => by
    simp only [reach]
    split
    · exact h
    · exact reach_nodup g k _ (addNew_nodup _ _ h)

theorem V1.ren (hf : ∀ id j, f id = some j → ρ id = .free ∨ ρ' j = ρ id) {c : AV} {v : Value} (hv : V1 ρ S w c v) : V1 ρ' S w (ren1 f c) v := by
  cases c with
  | own id off n sz =>
    simp only [ren1]
    cases hq : f id with
    | none => simp only [V1, P1]; exact hv.one
    | some j =>
      simp only [V1] at hv ⊢
      rcases hf id j hq with e | e
      · rw [e] at hv; exact hv.elim
      · rw [e]; exact hv
  | ptr id off =>
    simp only [ren1]
    cases hq : f id with
    | none => simp only [V1, P1]; exact hv.one
    | some j =>
      simp only [V1] at hv ⊢
      rcases hf id j hq with e | e
      · rw [e] at hv; exact hv.elim
      · rw [e]; exact hv
  | map id =>
    simp only [ren1]
    cases hq : f id with
    | none => simp only [V1, P1]; exact hv.one
    | some j =>
      simp only [V1] at hv ⊢
      rcases hf id j hq with e | e
      · rw [e] at hv; exact hv.elim
      · rw [e]; exact hv
  | _ => exact hv
theorem V2.ren (hf : ∀ id j, f id = some j → ρ id = .free ∨ ρ' j = ρ id) {c : AV} {v : Value} (hv : V2 ρ S w c v) : V2 ρ' S w (ren2 f c) v := by
  cases c with
  | agg cs =>
    simp only [V2, ren2] at hv ⊢
    obtain ⟨vs, rfl, hc⟩ := hv
    refine ⟨vs, rfl, by simpa using hc.1, fun j c hj => ?_⟩
    rw [List.getElem?_map] at hj
    cases hq : cs[j]? with
    | none => simp [hq] at hj
    | some d =>
      simp only [hq, Option.map_some, Option.some.injEq] at hj; subst hj
      obtain ⟨v, a, b⟩ := hc.2 j d hq
      exact ⟨v, a, b.ren hf⟩
  | any => trivial
  | undef => simpa only [V2, ren2, ren1] using hv
  | own => simp only [V2] at hv; simp only [ren2]; exact (hv.ren hf).v2
  | ptr => simp only [V2] at hv; simp only [ren2]; exact (hv.ren hf).v2
  | map => simp only [V2] at hv; simp only [ren2]; exact (hv.ren hf).v2
  | _ => simp only [V2] at hv; exact (V1.ren (ρ' := ρ') hf hv).v2
theorem V3.ren (hf : ∀ id j, f id = some j → ρ id = .free ∨ ρ' j = ρ id) {c : AV} {v : Value} (hv : V3 ρ S w c v) : V3 ρ' S w (Ab.ren f c) v := by
  cases c with
  | tup cs =>
    simp only [V3, Ab.ren] at hv ⊢
    obtain ⟨vs, rfl, hc⟩ := hv
    refine ⟨vs, rfl, by simpa using hc.1, fun j c hj => ?_⟩
    rw [List.getElem?_map] at hj
    cases hq : cs[j]? with
    | none => simp [hq] at hj
    | some d =>
      simp only [hq, Option.map_some, Option.some.injEq] at hj; subst hj
      obtain ⟨v, a, b⟩ := hc.2 j d hq
      exact ⟨v, a, b.ren hf⟩
  | _ => simp only [V3] at hv; simp only [Ab.ren]; exact (V2.ren (ρ' := ρ') hf hv).v3
theorem BR.ren (hf : ∀ id j, f id = some j → ρ id = .free ∨ ρ' j = ρ id) {l : Loc} {b : Blk} (hb : BR S w ρ l (some b)) : BR S w ρ' l (some (renB f b)) := by
  cases b with
  | obj cs =>
    simp only [BR, renB] at hb ⊢
    obtain ⟨b, ccs, e, h1, h2, h3⟩ := hb
    refine ⟨b, ccs, e, h1, h2, fun j c hj => ?_⟩
    rw [List.getElem?_map] at hj
    cases hq : cs[j]? with
    | none => simp [hq] at hj
    | some d =>
      simp only [hq, Option.map_some, Option.some.injEq] at hj; subst hj
      obtain ⟨v, a, b⟩ := h3 j d hq
      exact ⟨v, a, b.ren hf⟩
  | _ => exact hb

/-- Where the blocks of a list lie. -/
def subL (ρ : Nat → Loc) (n : Nat) (l : List Nat) (j : Nat) : Loc := match l[j]? with | some i => if i < n then ρ i else .gone | none => .free
theorem subL_at {ρ : Nat → Loc} {n : Nat} {l : List Nat} {j b m : Nat} (e : subL ρ n l j = .at b m) : ∃ i, l[j]? = some i ∧ i < n ∧ ρ i = .at b m := by
  unfold subL at e
  split at e
  · rename_i i hi
    split at e
    · exact ⟨i, hi, by assumption, e⟩
    · cases e
  · cases e
theorem Heap.free (H : Heap K ρ S h z w) {i : Nat} (hi : h.length ≤ i) : ρ i = .free := by
  have := H.blk i; rw [List.getElem?_eq_none hi] at this; exact this
theorem subL_pos (H : Heap K ρ S h z w) {l : List Nat} (id j : Nat) (e : pos? l id = some j) : ρ id = .free ∨ subL ρ h.length l j = ρ id := by
  have := pos_get e
  simp only [subL, this]
  by_cases hl : id < h.length
  · exact .inr (if_pos hl)
  · exact .inl (H.free (by omega))
theorem Heap.sub (H : Heap K ρ S h z w) {l : List Nat} (hl : l.Nodup) {zs : List Bool} (hzl : zs.length = l.length) (hz : ∀ (j i : Nat), l[j]? = some i → zs.getD j false = false → z.getD i false = false) {K' : Nat → Prop}
    (hK : ∀ b, K' b → b < w.heap.size) (hok : ∀ i ∈ l, ∀ b n, ρ i = .at b n → ¬ K' b) : Heap K' (subL ρ h.length l) S (l.map fun i => renB (pos? l) (h.getD i .gone)) zs w := by
  refine ⟨fun j => ?_, fun i j b n m hi hj => ?_, fun j b n hj => ?_, fun j b n hj hz' => ?_, by simp [hzl], H.sb, hK⟩
  · rw [List.getElem?_map]
    cases hj : l[j]? with
    | none => simp only [Option.map_none, BR, subL, hj]
    | some i =>
      simp only [Option.map_some, subL, hj]
      by_cases hi : i < h.length
      · rw [if_pos hi]
        have := H.blk i
        rw [List.getElem?_eq_getElem hi] at this
        have e : h.getD i .gone = h[i] := by simp [List.getD_eq_getElem?_getD, hi]
        rw [e]
        exact this.ren (fun id j e => subL_pos H id j e)
      · rw [if_neg hi]
        have e : h.getD i .gone = .gone := by simp [List.getD_eq_getElem?_getD, List.getElem?_eq_none (by omega : h.length ≤ i)]
        rw [e]; rfl
  · obtain ⟨a, ha, _, ha'⟩ := subL_at hi
    obtain ⟨c, hc, _, hc'⟩ := subL_at hj
    have := H.inj _ _ _ _ _ ha' hc'
    subst this
    have p1 := pos_some hl ha
    rw [pos_some hl hc] at p1
    simpa using p1.symm
  · obtain ⟨a, ha, _, ha'⟩ := subL_at hj
    exact hok a (List.mem_of_getElem? ha) _ _ ha'
  · obtain ⟨a, ha, _, ha'⟩ := subL_at hj
    exact H.own _ _ _ ha' (hz j a ha hz')

theorem keepL_get (keep : List Nat) : ∀ (l : List AV) (i t : Nat), (keepL keep i l)[t]? = (l[t]?).map fun v => if keep.contains (i + t) then v else .any
  | [], _, _ => by simp [keepL]
  | v :: r, i, 0 => by simp [keepL]
  | v :: r, i, t + 1 => by simp only [keepL, List.getElem?_cons_succ]; rw [keepL_get keep r (i + 1) t, show i + 1 + t = i + (t + 1) by omega]
theorem keepL_length (keep : List Nat) : ∀ (l : List AV) (i : Nat), (keepL keep i l).length = l.length
  | [], _ => rfl
  | v :: r, i => by simp [keepL, keepL_length keep r]
theorem addNew_prefix : ∀ (r acc : List Nat), ∃ t, addNew acc r = acc ++ t
  | [], acc => ⟨[], by simp [addNew]⟩
  | i :: r, acc => by
    rw [addNew]
    obtain ⟨t, ht⟩ := addNew_prefix r (if acc.contains i then acc else acc ++ [i])
    rw [ht]
    split
    · exact ⟨t, rfl⟩
    · exact ⟨[i] ++ t, by simp⟩
theorem reach_prefix (g : Nat → Option Blk) : ∀ (k : Nat) (l : List Nat), ∃ t, reach g k l = l ++ t
  | 0, l => ⟨[], by simp [reach]⟩
  | k + 1, l => by
    simp only [reach]
    split
    · exact ⟨[], by simp⟩
    · obtain ⟨t, ht⟩ := addNew_prefix (l.flatMap fun i => idsB (g i)) l
      obtain ⟨t', ht'⟩ := reach_prefix g k (addNew l (l.flatMap fun i => idsB (g i)))
      exact ⟨t ++ t', by rw [ht', ht, List.append_assoc]⟩
theorem upto_length : ∀ n, (upto n).length = n
  | 0 => rfl
  | n + 1 => by simp [upto, upto_length n]
theorem upto_get : ∀ (n i : Nat), i < n → (upto n)[i]? = some i
  | 0, i, h => by omega
  | n + 1, i, h => by
    rw [upto, List.getElem?_append, upto_length]
    split
    · exact upto_get n i (by assumption)
    · have : i = n := by omega
      subst this; simp
theorem upto_lt : ∀ (n i : Nat), i ∈ upto n → i < n
  | 0, i, h => by simp [upto] at h
  | n + 1, i, h => by
    rw [upto, List.mem_append] at h
    rcases h with q | q
    · have := upto_lt n i q; omega
    · simp at q; omega
theorem upto_nodup : ∀ (n : Nat), (upto n).Nodup
  | 0 => List.nodup_nil
  | n + 1 => by
    rw [upto, List.nodup_append]
    refine ⟨upto_nodup n, by simp, fun a ha b hb => ?_⟩
    simp at hb
    have := upto_lt n a ha; omega
/-- A state whose blocks are numbered anew. -/
theorem Rel.canon {s : AS} {a : Act} (R : Rel K ρ S s a w) (base : Nat) (keep : List Nat) : ∃ ρ', Rel K ρ' S (Ab.canon base keep s) a w ∧ ∀ id, id < base → ρ' id = ρ id ∨ ρ' id = .gone := by
  let tm := keepL keep 0 s.tmps
  let l := reach (s.heap[·]?) 4 (addNew (upto base) (tm.flatMap idsV))
  have hl : l.Nodup := reach_nodup _ _ _ (addNew_nodup _ _ (upto_nodup _))
  refine ⟨subL ρ s.heap.length l, ⟨?_, fun t v hv => ?_, ?_, R.dfr⟩, fun id hid => ?_⟩
  · show (tm.map _).length = _
    rw [List.length_map, keepL_length]; exact R.len
  · have hv' : ((tm[t]?).map (ren (pos? l))) = some v := by rw [← List.getElem?_map]; exact hv
    obtain ⟨u, hu, rfl⟩ := Option.map_eq_some_iff.1 hv'
    rw [keepL_get] at hu
    obtain ⟨q, hq, rfl⟩ := Option.map_eq_some_iff.1 hu
    obtain ⟨x, hx, hr⟩ := R.tmp t q hq
    refine ⟨x, hx, V3.ren (ρ := ρ) (fun id j e => subL_pos R.mem id j e) ?_⟩
    split
    · exact hr
    · trivial
  · refine R.mem.sub hl (by show (l.map _).length = l.length; simp) (fun j i hj hz => ?_) R.mem.kb (fun i _ b n hb => R.mem.ok i b n hb)
    have : (l.map fun i => s.frz.getD i false).getD j false = s.frz.getD i false := by simp [List.getD_eq_getElem?_getD, List.getElem?_map, hj]
    rw [← this]; exact hz
  · obtain ⟨t, ht⟩ := addNew_prefix (tm.flatMap idsV) (upto base)
    obtain ⟨t', ht'⟩ := reach_prefix (s.heap[·]?) 4 (addNew (upto base) (tm.flatMap idsV))
    have hlid : l[id]? = some id := by
      show (reach _ _ _)[id]? = _
      rw [ht', ht, List.append_assoc, List.getElem?_append, upto_length, if_pos hid]
      exact upto_get _ _ hid
    simp only [subL, hlid]
    split
    · exact .inl rfl
    · exact .inr rfl
end
/- Calls by reference. -/
section
variable {K S : Nat → Prop} {w : World} {ρ : Nat → Loc} {P : Program} {E : Env} {h : List Blk} {z : List Bool} {lk : Operand → AV} {ev : Operand → Value} {g : Nat → Option Blk} {fz : Nat → Bool} {slot : Nat} {o : Oper} {e : Eff}

theorem lookup_none : ∀ {ps : List (Nat × Blk)} {i : Nat}, i ∉ ps.map (·.1) → ps.lookup i = none
  | [], _, _ => rfl
  | (k, b) :: r, i, hn => by
    simp only [List.map_cons, List.mem_cons, not_or] at hn
    rw [List.lookup_cons, show (i == k) = false by simpa using hn.1]
    exact lookup_none hn.2
theorem setAll_length : ∀ (ps : List (Nat × Blk)) (h : List Blk), (setAll h ps).length = h.length
  | [], _ => rfl
  | (i, b) :: r, h => by rw [setAll, setAll_length r]; simp
theorem setAll_get : ∀ (ps : List (Nat × Blk)) (h : List Blk) (id : Nat), (ps.map (·.1)).Nodup → (setAll h ps)[id]? = match ps.lookup id with | some b => if id < h.length then some b else none | none => h[id]?
  | [], h, id, _ => rfl
  | (i, b) :: r, h, id, hn => by
    simp only [List.map_cons, List.nodup_cons] at hn
    rw [setAll, setAll_get r _ id hn.2, List.lookup_cons]
    by_cases e : id = i
    · subst e
      rw [lookup_none hn.1]
      simp only [beq_self_eq_true, List.getElem?_set]
      simp
    · rw [show (id == i) = false by simpa using e]
      simp only [List.length_set]
      rw [List.getElem?_set_ne (Ne.symm e)]
theorem writeBack_keys (l new : List Nat) (h' : List Blk) : ∀ (r : List Nat) (k : Nat), (writeBack l new slot h' k r).map (·.1) = r ++ new.map (fun _ => slot)
  | [], k => by simp [writeBack]
  | i :: r, k => by simp [writeBack, writeBack_keys l new h' r]
theorem writeBack_lookup (l new : List Nat) (h' : List Blk) : ∀ (r : List Nat) (k id : Nat), (writeBack l new slot h' k r).lookup id = match pos? r id with | some p => some (renB (backOf l new slot) (h'.getD (k + p) .gone)) | none => (new.map fun j => (slot, renB (backOf l new slot) (h'.getD j .gone))).lookup id
  | [], k, id => by simp [writeBack, pos?]
  | i :: r, k, id => by
    rw [writeBack, List.lookup_cons]
    by_cases e : i = id
    · subst e; simp [pos?]
    · rw [show (id == i) = false by simpa using Ne.symm e]
      simp only [pos?, if_neg e]
      rw [writeBack_lookup l new h' r (k + 1) id]
      cases pos? r id with
      | none => rfl
      | some p => simp only [Option.map_some]; rw [show k + 1 + p = k + (p + 1) by omega]
theorem frzBack_mem (l new : List Nat) : ∀ (z : List Bool) (k j i : Nat), z[j]? = some true → backOf l new slot (k + j) = some i → i ∈ frzBack l new slot k z
  | [], _, _, _, h, _ => by simp at h
  | b :: r, k, 0, i, h, hb => by
    simp at h; subst h
    rw [Nat.add_zero] at hb
    simp [frzBack, hb]
  | b :: r, k, j + 1, i, h, hb => by
    simp only [frzBack, List.mem_append]
    exact .inr (frzBack_mem l new r (k + 1) j i (by simpa using h) (by rwa [show k + 1 + j = k + (j + 1) by omega]))

def slotLoc (ρ' : Nat → Loc) (n : Nat) (l : Loc) : List Nat → Loc
  | [j] => if j < n then ρ' j else .gone
  | _ => l
theorem op_callR (C : Ctx E P K ρ S h z w lk ev g fz) (hE : EnvOk E P) (hs : h[slot]? = some .dead) {c : Call} {x : Operand} {f : FuncId} (ho : o.op = .call c) (hc : c.callee = .value x) (hf : lk x = .fn f) (href : (isF x && E.ref f) = true) (he : eff E lk g fz slot o.op = some e) : OpGoal P K ρ S h z w ev o e := by
  rw [ho] at he; simp only [eff, hc, hf, href, if_true, refCall] at he
  have hx := fn_of (hf ▸ C.look x)
  generalize hl : reach g 4 (addNew [] ((c.args.toList.map lk).flatMap idsV)) = l at he
  split at he
  · cases he
  rename_i hchk
  simp only [Bool.not_eq_true', Bool.not_eq_false, Bool.and_eq_true] at hchk
  obtain ⟨⟨hvis, hnd⟩, hsl⟩ := hchk
  have hnd := nodupB_spec hnd
  have hsl : slot ∉ l := fun hm => by rw [List.contains_iff_mem.2 hm] at hsl; simp at hsl
  have hvis' : ∀ i ∈ l, ∃ b, g i = some b := fun i hi => by
    have := List.all_eq_true.1 hvis i hi
    cases hq : g i with
    | none => rw [hq] at this; cases this
    | some b => exact ⟨b, rfl⟩
  have hhl : (l.map fun i => renB (pos? l) ((g i).getD .gone)) = l.map fun i => renB (pos? l) (h.getD i .gone) := by
    apply List.map_congr_left
    intro i hi
    obtain ⟨b, hb⟩ := hvis' i hi
    rw [hb, List.getD_eq_getElem?_getD, C.sees i b hb]
  rw [hhl] at he
  have hlt : ∀ i ∈ l, i < h.length := fun i hi => by
    obtain ⟨b, hb⟩ := hvis' i hi
    exact (List.getElem?_eq_some_iff.1 (C.sees i b hb)).1
  split at he
  · cases he
  rename_i v h' z' hcall
  obtain ⟨hb, hok⟩ := hE.callR _ _ _ _ _ _ _ hcall
  -- the callee's protected blocks
  let K' : Nat → Prop := fun b => b < w.heap.size ∧ ∀ i ∈ l, ∀ n, ρ i ≠ .at b n
  have HS : Heap K' (subL ρ h.length l) S (l.map fun i => renB (pos? l) (h.getD i .gone)) (l.map fz) w :=
    C.mem.sub hnd (by simp) (fun j i hj hz => C.frz i (by simpa [List.getD_eq_getElem?_getD, List.getElem?_map, hj] using hz)) (fun b hb => hb.1) (fun i hi b n hb hk => hk.2 i hi n hb)
  have hargs : LR (V3 (subL ρ h.length l) S w) ((c.args.toList.map lk).map (ren (pos? l))) (c.args.toList.map ev) := by
    refine ⟨by simp, fun j d hj => ?_⟩
    rw [List.getElem?_map, List.getElem?_map] at hj
    cases hq : c.args.toList[j]? with
    | none => simp [hq] at hj
    | some y =>
      simp only [hq, Option.map_some, Option.some.injEq] at hj; subst hj
      exact ⟨ev y, by simp [List.getElem?_map, hq], V3.ren (fun id j e => subL_pos C.mem id j e) (C.look y)⟩
  unfold OpGoal execOp; simp only [ho]
  rw [run_callF hb hc hx]
  refine (hok K' (subL ρ h.length l) S w _ HS hargs).mono fun en w' ⟨u, ρ', S', hen, hv, H', X'⟩ => ⟨u, hen, ?_⟩
  generalize hnew : (addNew [] (idsV v)).filter (fun j => decide (l.length ≤ j)) = new at he
  have hnew2 : (new = [] ∨ ∃ j, new = [j] ∧ l.length ≤ j) ∧ e = ⟨ren (backOf l new slot) v, writeBack l new slot h' 0 l, frzBack l new slot 0 z'⟩ := by
    split at he
    · cases he
    · rename_i hnn
      simp only [Option.some.injEq] at he
      refine ⟨?_, he.symm⟩
      cases hq : new with
      | nil => exact .inl rfl
      | cons j r =>
        cases r with
        | nil =>
          have : j ∈ (addNew [] (idsV v)).filter (fun j => decide (l.length ≤ j)) := by rw [hnew, hq]; simp
          exact .inr ⟨j, rfl, by simpa using (List.mem_filter.1 this).2⟩
        | cons k r => exact (hnn _ _ _ hq).elim
  obtain ⟨hn1, rfl⟩ := hnew2
  clear he
  let ρc : Nat → Loc := fun id => match pos? l id with
    | some p => if p < h'.length then ρ' p else .gone
    | none => if id = slot then slotLoc ρ' h'.length (ρ slot) new else ρ id
  have hfree : ρ slot = .free := by have := C.mem.blk slot; rw [hs] at this; exact this
  have hslp : pos? l slot = none := by
    cases hq : pos? l slot with
    | none => rfl
    | some p => exact (hsl (List.mem_of_getElem? (pos_get hq))).elim
  have hslt := (List.getElem?_eq_some_iff.1 hs).1
  -- what a block's place is
  have c1 : ∀ {id p}, pos? l id = some p → ρc id = if p < h'.length then ρ' p else .gone := fun e => by simp only [ρc, e]
  have c2 : ∀ {j}, new = [j] → ρc slot = if j < h'.length then ρ' j else .gone := fun e => by simp only [ρc, hslp, if_true, e, slotLoc]
  have c3 : ∀ {id}, pos? l id = none → (id = slot → new = []) → ρc id = ρ id := fun {id} e q => by
    simp only [ρc, e]
    split
    · rename_i e'; subst e'; rw [q rfl]; rfl
    · rfl
  have cat : ∀ id b n, ρc id = .at b n → (∃ p, (pos? l id = some p ∨ (id = slot ∧ new = [p] ∧ l.length ≤ p)) ∧ ρ' p = .at b n) ∨ (pos? l id = none ∧ (id = slot → new = []) ∧ ρ id = .at b n) := by
    intro id b n hb
    cases hq : pos? l id with
    | some p =>
      rw [c1 hq] at hb
      split at hb
      · exact .inl ⟨p, .inl rfl, hb⟩
      · cases hb
    | none =>
      by_cases hid : id = slot
      · subst hid
        rcases hn1 with e | ⟨j, e, hj⟩
        · rw [c3 hq (fun _ => e)] at hb; exact .inr ⟨rfl, fun _ => e, hb⟩
        · rw [c2 e] at hb
          split at hb
          · exact .inl ⟨j, .inr ⟨rfl, e, hj⟩, hb⟩
          · cases hb
      · rw [c3 hq (fun q => (hid q).elim)] at hb; exact .inr ⟨rfl, fun q => (hid q).elim, hb⟩
  have hback : ∀ j i, backOf l new slot j = some i → ρ' j = .free ∨ ρc i = ρ' j := by
    intro j i hb
    by_cases hj : j < h'.length
    · right
      unfold backOf at hb
      split at hb
      · rw [c1 (pos_some hnd hb), if_pos hj]
      · split at hb
        · rename_i h1 h2
          simp only [Option.some.injEq] at hb; subst hb
          rcases hn1 with e | ⟨k, e, hk⟩
          · rw [e] at h2; simp at h2
          · rw [e] at h2; simp at h2; subst h2; rw [c2 e, if_pos hj]
        · cases hb
    · exact .inl (H'.free (by omega))
  have hKK : ∀ b, K b → K' b := fun b hb => ⟨C.mem.kb b hb, fun i hi n hr => C.mem.ok i b n hr hb⟩
  have hout : ∀ id b n, pos? l id = none → ρ id = .at b n → K' b := fun id b n hp hr => ⟨(C.mem.lt hr).1, fun i hi m hm => by
    have := C.mem.inj _ _ _ _ _ hr hm
    subst this
    obtain ⟨j, hj⟩ := List.getElem?_of_mem hi
    rw [pos_some hnd hj] at hp; cases hp⟩
  have hK'out : ∀ b, ¬ K' b → ¬ K b := fun b hn hk => hn (hKK b hk)
  have loc : ∀ id, ρ id = .free ∨ ρc id = ρ id ∨ ρc id = .gone := by
    intro id
    cases hq : pos? l id with
    | some p =>
      rw [c1 hq]
      have hg := pos_get hq
      have hs2 : subL ρ h.length l p = ρ id := by simp only [subL, hg]; exact if_pos (hlt id (List.mem_of_getElem? hg))
      split
      · rcases X'.loc p with e | e | e
        · left; rw [← hs2]; exact e
        · right; left; rw [e, hs2]
        · right; right; exact e
      · exact .inr (.inr rfl)
    | none =>
      by_cases hid : id = slot
      · subst hid; exact .inl hfree
      · exact .inr (.inl (c3 hq (fun q => (hid q).elim)))
  have hkeys : ((writeBack l new slot h' 0 l).map (·.1)).Nodup := by
    rw [writeBack_keys, List.nodup_append]
    rcases hn1 with e | ⟨j, e, _⟩ <;> subst e
    · exact ⟨hnd, by simp, by simp⟩
    · exact ⟨hnd, by simp, fun a ha b hb => by simp at hb; subst hb; rintro rfl; exact hsl ha⟩
  have hget := setAll_get (writeBack l new slot h' 0 l) h
  refine ⟨ρc, S', ⟨X'.os, X'.tape, X'.output, X'.size, fun b hb => X'.kept b (hKK b hb), X'.ss, fun b hb => (X'.new b hb).imp id (hK'out b), X'.same, loc⟩, ⟨?_, ?_, ?_, ?_, ?_, H'.sb, fun b hb => Nat.lt_of_lt_of_le (C.mem.kb b hb) X'.size⟩, ?_⟩
  · -- blocks
    intro id
    rw [hget id hkeys, writeBack_lookup]
    have newb : ∀ p, BR S' w' ρc (if p < h'.length then ρ' p else .gone) (some (renB (backOf l new slot) (h'.getD p .gone))) := by
      intro p
      by_cases hp : p < h'.length
      · rw [if_pos hp]
        have := H'.blk p
        rw [List.getElem?_eq_getElem hp] at this
        have e : h'.getD p .gone = h'[p] := by simp [List.getD_eq_getElem?_getD, hp]
        rw [e]
        exact this.ren hback
      · rw [if_neg hp]
        have e : h'.getD p .gone = .gone := by simp [List.getD_eq_getElem?_getD, List.getElem?_eq_none (by omega : h'.length ≤ p)]
        rw [e]; rfl
    cases hq : pos? l id with
    | some p =>
      simp only [Nat.zero_add]
      rw [if_pos (hlt id (List.mem_of_getElem? (pos_get hq))), c1 hq]
      exact newb p
    | none =>
      simp only
      rcases hn1 with e | ⟨j, e, hj⟩
      · rw [c3 hq (fun _ => e)]
        subst e
        simp only [List.map_nil, List.lookup_nil]
        exact (C.mem.blk id).mono X'.ss X'.same loc (fun b n hb => X'.kept b (hout id b n hq hb))
      · by_cases hid : id = slot
        · subst hid
          rw [c2 e]
          subst e
          simp only [List.map_cons, List.map_nil, List.lookup_cons, beq_self_eq_true]
          rw [if_pos hslt]
          exact newb j
        · rw [c3 hq (fun q => (hid q).elim)]
          subst e
          simp only [List.map_cons, List.map_nil, List.lookup_cons, show (id == slot) = false by simpa using hid, List.lookup_nil]
          exact (C.mem.blk id).mono X'.ss X'.same loc (fun b n hb => X'.kept b (hout id b n hq hb))
  · -- one block, one number
    intro i j b n m hi hj
    rcases cat i b n hi with ⟨p, hp, hp'⟩ | ⟨hp, hp0, hp'⟩ <;> rcases cat j b m hj with ⟨q, hq, hq'⟩ | ⟨hq, hq0, hq'⟩
    · have := H'.inj _ _ _ _ _ hp' hq'
      subst this
      rcases hp with hp | ⟨hp, e1, e2⟩ <;> rcases hq with hq | ⟨hq, e3, e4⟩
      · have a := pos_get hp; have b := pos_get hq; rw [a] at b; simpa using b
      · have := (List.getElem?_eq_some_iff.1 (pos_get hp)).1; omega
      · have := (List.getElem?_eq_some_iff.1 (pos_get hq)).1; omega
      · rw [hp, hq]
    · exact (H'.ok _ _ _ hp' (hout _ _ _ hq hq')).elim
    · exact (H'.ok _ _ _ hq' (hout _ _ _ hp hp')).elim
    · exact C.mem.inj _ _ _ _ _ hp' hq'
  · intro id b n hb
    rcases cat id b n hb with ⟨p, _, hp⟩ | ⟨_, _, hp⟩
    · exact hK'out b (H'.ok _ _ _ hp)
    · exact C.mem.ok _ _ _ hp
  · intro id b n hb hz
    have hzz : z.getD id false = false := by
      cases hq : z.getD id false with
      | false => rfl
      | true => rw [frzAll_true _ z id hq] at hz; cases hz
    rcases cat id b n hb with ⟨p, hp, hp'⟩ | ⟨hp, hp0, hp'⟩
    · refine H'.own _ _ _ hp' ?_
      cases hq : z'.getD p false with
      | false => rfl
      | true =>
        exfalso
        have hzp : z'[p]? = some true := by
          rw [List.getD_eq_getElem?_getD] at hq
          cases hr : z'[p]? with
          | none => rw [hr] at hq; simp at hq
          | some b => rw [hr] at hq; simp at hq; rw [hq]
        have hbk : backOf l new slot (0 + p) = some id := by
          rw [Nat.zero_add]; unfold backOf
          rcases hp with hp | ⟨hp, e1, e2⟩
          · have := pos_get hp
            rw [if_pos (List.getElem?_eq_some_iff.1 this).1]; exact this
          · rw [if_neg (by omega), e1]; simp [hp]
        have hmem := frzBack_mem l new z' 0 p id hzp hbk
        have hid : id < z.length := by
          rw [C.mem.zl]
          rcases hp with hp | ⟨hp, _, _⟩
          · exact hlt id (List.mem_of_getElem? (pos_get hp))
          · rw [hp]; exact hslt
        rw [frzAll_mem _ z id hmem hid] at hz; cases hz
    · intro hS
      rcases X'.new b hS with q | q
      · exact C.mem.own _ _ _ hp' hzz q
      · exact q (hout _ _ _ hp hp')
  · rw [frzAll_length, setAll_length]; exact C.mem.zl
  · exact V3.ren hback hv
end
/- One operation of a region. -/
section
variable {K S : Nat → Prop} {w : World} {ρ : Nat → Loc} {P : Program} {E : Env} {h : List Blk} {z : List Bool} {lk lk' : Operand → AV} {ev : Operand → Value} {g g' : Nat → Option Blk} {fz fz' : Nat → Bool} {slot : Nat} {o : Oper} {e : Eff} {op : Op}

theorem eff_sound (C : Ctx E P K ρ S h z w lk ev g fz) (hev : ∀ f, ev (.func f) = .func (.func f) #[] #[]) (hE : EnvOk E P) (hs : isAlloc E.ref o.op = true → h[slot]? = some .dead) (he : eff E lk g fz slot o.op = some e) : OpGoal P K ρ S h z w ev o e := by
  cases hop : o.op with
  | move x => exact op_move C hop he
  | assign x => exact op_assign C hop he
  | pick c x y => exact op_pick C hop he
  | alloc t => exact op_alloc C (hs (by rw [hop]; rfl)) hop he
  | box t x => exact op_box C (hs (by rw [hop]; rfl)) hop he
  | build t ps => exact op_build C hop he
  | buildSlice t n ps => exact op_buildSlice C (hs (by rw [hop]; rfl)) hop he
  | load t x => exact op_load C hop he
  | store t x y => exact op_store C hop he
  | nilCheck x => exact op_nilCheck C hop he
  | binOp a b c d f => exact op_bin C hop he
  | unOp a b c => exact op_un C hop he
  | convert a b c => exact op_convert C hop he
  | makeSlice t x y => exact op_makeSlice C (hs (by rw [hop]; rfl)) hop he
  | slice t x a b c => exact op_slice C hop he
  | fieldAddr t x f => exact op_fieldAddr C hop he
  | field t x f => exact op_field C hop he
  | indexAddr t x y => exact op_indexAddr C hop he
  | index t x y => exact op_index C hop he
  | extract x i => exact op_extract C hop he
  | makeFunc a b c => exact op_makeFunc C hop he
  | makeMap t r => exact op_makeMap C (hs (by rw [hop]; rfl)) hop he
  | lookup t x i ok => exact op_lookup C hop he
  | mapUpdate t m i x => exact op_mapUpdate C hop he
  | insert t m i x => exact op_insert C hop he
  | call c =>
    cases hc : c.callee with
    | invoke a b => rw [hop] at he; simp only [eff, hc, reduceCtorEq] at he
    | builtin b =>
      cases b <;> first
        | exact op_len C hop hc he
        | exact op_minmax C hop hc (.inl rfl) he
        | exact op_minmax C hop hc (.inr rfl) he
        | exact op_copy C hop hc he
        | exact op_append C (hs (by rw [hop]; obtain ⟨_, _, _⟩ := c; simp only at hc; subst hc; rfl)) hop hc he
        | (rw [hop] at he; simp only [eff, hc, reduceCtorEq] at he)
    | value x =>
      have hf : (∃ f, lk x = .fn f) ∨ ∃ f cs, lk x = .clo f cs := by
        rw [hop] at he; simp only [eff, hc] at he
        split at he
        · exact .inl ⟨_, by assumption⟩
        · exact .inr ⟨_, _, by assumption⟩
        · cases he
      rcases hf with ⟨f, hf⟩ | ⟨f, cs, hf⟩
      case inr => exact op_callC C hE hop hc hf he
      by_cases href : (isF x && E.ref f) = true
      · refine op_callR C hE (hs ?_) hop hc hf href he
        simp only [Bool.and_eq_true] at href
        cases x with
        | func f' =>
          rw [C.lkF] at hf; cases hf
          rw [hop]; obtain ⟨_, _, _⟩ := c; simp only at hc; subst hc; simp only [isAlloc]; exact href.2
        | _ => simp [isF] at href
      · exact op_callV C hE hop hc hf (by simpa using href) he
  | _ => rw [hop] at he; simp only [eff, reduceCtorEq] at he

/-! What an operation looks at. -/
theorem cellsL_congr : ∀ {ps : List (Nat × Operand)}, (∀ x ∈ ps.map (·.2), lk x = lk' x) → cellsL lk ps = cellsL lk' ps
  | [], _ => rfl
  | (i, x) :: r, hx => by
    simp only [cellsL]
    rw [hx x (by simp), cellsL_congr (fun y hy => hx y (by simp at hy ⊢; exact .inr hy))]
theorem cellsR_congr : ∀ {ps : List (Nat × Operand)}, (∀ x ∈ ps.map (·.2), lk x = lk' x) → cellsR g lk ps = cellsR g lk' ps
  | [], _ => rfl
  | (i, x) :: r, hx => by
    simp only [cellsR]
    rw [hx x (by simp), cellsR_congr (fun y hy => hx y (by simp at hy ⊢; exact .inr hy))]
theorem bound_congr {d t : Nat} : ∀ {x : Option Operand}, (∀ y ∈ x.toArray, lk y = lk' y) → bound lk d t x = bound lk' d t x
  | none, _ => rfl
  | some x, hx => by simp only [bound]; rw [hx x (by simp)]
theorem eff_congr (hx : ∀ x ∈ op.operands, lk x = lk' x) : eff E lk g fz slot op = eff E lk' g fz slot op := by
  cases op <;> simp only [Op.operands] at hx <;> simp only [eff]
  case build t ps => rw [cellsL_congr (lk := lk) (lk' := lk') (ps := ps.toList) (fun x hx' => hx x (by simpa using hx'))]
  case buildSlice t n ps => rw [cellsR_congr (lk := lk) (lk' := lk') (ps := ps.toList) (fun x hx' => hx x (by simpa using hx'))]
  case makeMap t r =>
    cases r with
    | none => rfl
    | some q => simp only [Option.map_some]; rw [hx q (by simp)]
  case slice t x lo hi mx =>
    have h0 : lk x = lk' x := hx x (by simp)
    have h1 : ∀ y ∈ lo.toArray, lk y = lk' y := fun y hy => hx y (by simp at hy ⊢; simp [hy])
    have h2 : ∀ y ∈ hi.toArray, lk y = lk' y := fun y hy => hx y (by simp at hy ⊢; simp [hy])
    simp only [h0, bound_congr h1, bound_congr h2]
  case makeFunc f first cap =>
    have h1 : cap.toList.map lk = cap.toList.map lk' := List.map_congr_left fun y hy => hx y (by simp; exact .inr (by simpa using hy))
    simp only [h1]
  case call c =>
    have h1 : c.args.toList.map lk = c.args.toList.map lk' := List.map_congr_left fun y hy => hx y (by simp [Call.operands]; exact .inr (by simpa using hy))
    rw [h1]
    cases hc : c.callee with
    | value x => simp only; rw [hx x (by simp [Call.operands, hc])]
    | invoke a b => rfl
    | builtin b => cases b <;> rfl
  all_goals (first | rfl | (simp only [hx _ (by simp : _ ∈ #[_])]; done) | (have := hx; simp at this; simp only [this]; done) | (simp at hx; obtain ⟨h1, h2⟩ := hx; simp only [h1, h2]; done) | (simp at hx; obtain ⟨h1, h2, h3⟩ := hx; simp only [h1, h2, h3]; done))

theorem eff_n (h : cls E.ref op = .n ∨ cls E.ref op = .a) : eff E lk g fz slot op = eff E lk g' fz' slot op := by
  cases op <;> first
    | rfl
    | (simp [cls] at h; done)
    | skip
  case call c =>
    obtain ⟨ce, as, ts⟩ := c
    cases ce with
    | value x => cases x <;> simp only [cls] at h <;> first | (simp at h; done) | (split at h <;> simp at h)
    | invoke a b => simp [cls] at h
    | builtin b => cases b <;> first | rfl | (simp [cls] at h)
theorem eff_h (hF : ∀ f, lk (.func f) = .fn f) (h : cls E.ref op ≠ .w) : eff E lk g fz slot op = eff E lk g fz' slot op := by
  cases op <;> first
    | rfl
    | (simp [cls] at h; done)
    | skip
  case call c =>
    obtain ⟨ce, as, ts⟩ := c
    cases ce with
    | value x =>
      cases x with
      | func f =>
        simp only [cls] at h
        split at h
        · simp at h
        · rename_i hf
          simp only [eff, hF, show (isF (.func f) && E.ref f) = false by simpa [isF] using hf, Bool.false_eq_true, if_false]
      | _ => simp only [eff, isF, Bool.false_and, Bool.false_eq_true, if_false]
    | invoke a b => simp [cls] at h
    | builtin b => cases b <;> first | rfl | (simp [cls] at h)
/-! What an operation writes. -/
theorem writeBack_mem {l new : List Nat} {h' : List Blk} {k : Nat} {r : List Nat} {p : Nat × Blk} (hp : p ∈ writeBack l new slot h' k r) : p.1 ∈ r ∨ p.1 = slot := by
  have : p.1 ∈ (writeBack l new slot h' k r).map (·.1) := List.mem_map.2 ⟨p, hp, rfl⟩
  rw [writeBack_keys, List.mem_append] at this
  rcases this with h | h
  · exact .inl h
  · simp at h; exact .inr h.2.symm

structure Foot (E : Env) (g : Nat → Option Blk) (slot : Nat) (op : Op) (e : Eff) : Prop where
  /-- what is written: the slot, or what lives -/
  keys : ∀ p ∈ e.sets, (p.1 = slot ∧ isAlloc E.ref op = true) ∨ (liveB (g p.1) = true ∧ cls E.ref op = .w)
  frs : (cls E.ref op = .n ∨ cls E.ref op = .a) → e.frs = []
theorem Foot.none {v : AV} (hn : cls E.ref op = .n ∨ cls E.ref op = .a ∨ True) : Foot E g slot op ⟨v, [], []⟩ := ⟨by simp, fun _ => rfl⟩
theorem Foot.ofSlot {v : AV} {b : Blk} (hn : isAlloc E.ref op = true) : Foot E g slot op ⟨v, [(slot, b)], []⟩ := ⟨by simp [hn], fun _ => rfl⟩
theorem Foot.ofSlotF {v : AV} {b : Blk} {f : List Nat} (hn : isAlloc E.ref op = true) (hc : cls E.ref op ≠ .n ∧ cls E.ref op ≠ .a) : Foot E g slot op ⟨v, [(slot, b)], f⟩ := ⟨by simp [hn], fun h => (h.elim hc.1 hc.2).elim⟩

theorem eff_foot (hF : ∀ f, lk (.func f) = .fn f) (he : eff E lk g fz slot op = some e) : Foot E g slot op e := by
  have nn : ∀ {v : AV}, some (⟨v, [], []⟩ : Eff) = some e → Foot E g slot op e := fun h => by cases h; exact ⟨by simp, fun _ => rfl⟩
  cases op with
  | move x => exact nn he
  | assign x => exact nn he
  | pick c x y => simp only [eff] at he; (repeat' split at he); all_goals (first | exact nn he | cases he)
  | alloc t =>
    simp only [eff] at he; (repeat' split at he)
    all_goals (first | (cases he; exact Foot.ofSlot rfl) | cases he)
  | box t x =>
    simp only [eff] at he; (repeat' split at he)
    all_goals (first | (cases he; exact Foot.ofSlotF rfl ⟨by simp [cls], by simp [cls]⟩) | cases he)
  | build t ps => simp only [eff] at he; (repeat' split at he); all_goals (first | exact nn he | cases he)
  | buildSlice t n ps =>
    simp only [eff] at he; (repeat' split at he)
    all_goals (first | (cases he; exact Foot.ofSlotF rfl ⟨by simp [cls], by simp [cls]⟩) | cases he)
  | load t x => simp only [eff] at he; (repeat' split at he); all_goals (first | exact nn he | cases he)
  | store t x y =>
    simp only [eff] at he
    split at he
    · split at he
      · split at he
        · rename_i hg
          repeat' split at he
          all_goals (first | (cases he; exact ⟨by simp [hg, liveB, cls], fun h => by simp [cls] at h⟩) | cases he)
        · rename_i hg
          repeat' split at he
          all_goals (first | (cases he; exact ⟨by simp [hg, liveB, cls], fun h => by simp [cls] at h⟩) | cases he)
        · cases he
      · cases he
    · cases he
  | nilCheck x => simp only [eff] at he; (repeat' split at he); all_goals (first | exact nn he | cases he)
  | binOp a b c d f => simp only [eff] at he; (repeat' split at he); all_goals (first | exact nn he | cases he)
  | unOp a b c => simp only [eff] at he; (repeat' split at he); all_goals (first | exact nn he | cases he)
  | convert a b c => simp only [eff] at he; (repeat' split at he); all_goals (first | exact nn he | cases he)
  | makeSlice t x y =>
    simp only [eff] at he; (repeat' split at he)
    all_goals (first | (cases he; exact Foot.ofSlot rfl) | cases he)
  | slice t x a b c => simp only [eff] at he; (repeat' split at he); all_goals (first | exact nn he | cases he)
  | fieldAddr t x f => simp only [eff] at he; (repeat' split at he); all_goals (first | exact nn he | cases he)
  | field t x f => simp only [eff] at he; (repeat' split at he); all_goals (first | exact nn he | cases he)
  | indexAddr t x y => simp only [eff] at he; (repeat' split at he); all_goals (first | exact nn he | cases he)
  | index t x y => simp only [eff] at he; (repeat' split at he); all_goals (first | exact nn he | cases he)
  | makeMap t r => simp only [eff] at he; (repeat' split at he); all_goals (first | (cases he; exact Foot.ofSlot rfl) | cases he)
  | lookup t x i ok => simp only [eff] at he; (repeat' split at he); all_goals (first | exact nn he | cases he)
  | mapUpdate t m i x =>
    simp only [eff] at he
    split at he
    · split at he
      · split at he
        · rename_i hg
          repeat' split at he
          all_goals (first | (cases he; exact ⟨by simp [hg, liveB, cls], fun h => by simp [cls] at h⟩) | cases he)
        · cases he
      · cases he
    · cases he
  | insert t m i x =>
    simp only [eff] at he
    split at he
    · split at he
      · split at he
        · rename_i hg
          repeat' split at he
          all_goals (first | (cases he; exact ⟨by simp [hg, liveB, cls], fun h => by simp [cls] at h⟩) | cases he)
        · cases he
      · cases he
    · cases he
  | makeFunc f first cap =>
    simp only [eff] at he
    (repeat' split at he)
    all_goals (first | (cases he; exact ⟨by simp, fun h => by simp [cls] at h⟩) | cases he)
  | extract x i => simp only [eff] at he; (repeat' split at he); all_goals (first | exact nn he | cases he)
  | call c =>
    obtain ⟨ce, as, ts⟩ := c
    cases ce with
    | invoke a b => simp only [eff, reduceCtorEq] at he
    | builtin b =>
      cases b <;> first
        | (simp only [eff, reduceCtorEq] at he; done)
        | skip
      · -- append
        simp only [eff] at he
        split at he
        · split at he
          · split at he
            · cases he
            · unfold appA at he
              split at he
              · split at he
                · cases he; exact Foot.ofSlot rfl
                · cases he
              · split at he
                · split at he
                  · rename_i hg
                    split at he
                    · cases he
                      refine ⟨?_, fun h => by simp [cls] at h⟩
                      simp only [List.mem_cons, List.not_mem_nil, or_false]
                      rintro p (rfl | rfl)
                      · exact .inr ⟨by simp [hg, liveB], rfl⟩
                      · exact .inl ⟨rfl, rfl⟩
                    · cases he
                  · cases he
                · cases he
              · cases he
          · cases he
        · cases he
      all_goals first
        | (simp only [eff] at he; (repeat' split at he); all_goals (first | exact nn he | (cases he; done)); done)
        | skip
      · -- copy
        simp only [eff] at he
        split at he
        · split at he
          · split at he
            · split at he
              · split at he
                · rename_i hg
                  split at he
                  · cases he
                    exact ⟨by simp [hg, liveB, cls], fun h => by simp [cls] at h⟩
                  · cases he
                · cases he
              · cases he
            · cases he
          · cases he
        · cases he
    | value x =>
      simp only [eff] at he
      split at he
      · rename_i f hf
        by_cases href : (isF x && E.ref f) = true
        · rw [if_pos href] at he
          have hfx : x = .func f := by
            simp only [Bool.and_eq_true] at href
            cases x with
            | func f' => rw [hF] at hf; cases hf; rfl
            | _ => simp [isF] at href
          subst hfx
          simp only [isF, Bool.true_and] at href
          have hc : cls E.ref (.call ⟨.value (.func f), as, ts⟩) = .w := by simp only [cls, href, if_true]
          simp only [refCall] at he
          split at he
          · cases he
          · rename_i hchk
            simp only [Bool.not_eq_true', Bool.not_eq_false, Bool.and_eq_true] at hchk
            split at he
            · cases he
            · split at he
              · cases he
              · cases he
                refine ⟨fun p hp => ?_, fun h => by rw [hc] at h; simp at h⟩
                rcases writeBack_mem hp with q | q
                · exact .inr ⟨List.all_eq_true.1 hchk.1.1 _ q, hc⟩
                · exact .inl ⟨q, by simp only [isAlloc]; exact href⟩
        · rw [if_neg href] at he
          have hc : cls E.ref (.call ⟨.value x, as, ts⟩) ≠ .n ∧ cls E.ref (.call ⟨.value x, as, ts⟩) ≠ .a := by
            cases x <;> simp only [cls] <;> (try split) <;> simp
          repeat' split at he
          all_goals (first | (cases he; exact ⟨by simp, fun h => (h.elim hc.1 hc.2).elim⟩) | cases he)
      · rename_i f cs hf
        have hc : cls E.ref (.call ⟨.value x, as, ts⟩) ≠ .n ∧ cls E.ref (.call ⟨.value x, as, ts⟩) ≠ .a := by
          cases x <;> simp only [cls] <;> (try split) <;> simp
        repeat' split at he
        all_goals (first | (cases he; exact ⟨by simp, fun h => (h.elim hc.1 hc.2).elim⟩) | cases he)
      · cases he
  | _ => simp only [eff, reduceCtorEq] at he
/-! An operation looks at the blocks that it names, and writes no others (but for its slot). -/
theorem reify1_local {c : AV} (hg : ∀ id ∈ ids1 c, g id = g' id) : reify1 g c = reify1 g' c := by
  cases c <;> first | rfl | (simp only [reify1]; rw [hg _ (by simp [ids1])])
theorem reify1_frs {c r : AV} {f : List Nat} (h : reify1 g c = some (r, f)) : ∀ i ∈ f, i ∈ ids1 c := by
  intro i hi
  cases c <;> simp only [reify1, Option.some.injEq, Prod.mk.injEq, reduceCtorEq] at h <;> first
    | (obtain ⟨_, rfl⟩ := h; simp at hi; done)
    | skip
  split at h
  · split at h
    · simp only [Option.some.injEq, Prod.mk.injEq] at h; obtain ⟨_, rfl⟩ := h; simpa [ids1] using hi
    · cases h
  · cases h
theorem reifyL_local : ∀ {cs : List AV}, (∀ id ∈ cs.flatMap ids1, g id = g' id) → reifyL g cs = reifyL g' cs
  | [], _ => rfl
  | c :: r, h => by
    simp only [reifyL]
    rw [reify1_local (fun id hi => h id (by simp [hi])), reifyL_local (fun id hi => h id (by rw [List.flatMap_cons]; exact List.mem_append.2 (.inr hi)))]
theorem reifyL_frs : ∀ {cs rs : List AV} {f : List Nat}, reifyL g cs = some (rs, f) → ∀ i ∈ f, i ∈ cs.flatMap ids1
  | [], rs, f, h, i, hi => by simp only [reifyL, Option.some.injEq, Prod.mk.injEq] at h; obtain ⟨_, rfl⟩ := h; simp at hi
  | c :: r, rs, f, h, i, hi => by
    simp only [reifyL] at h
    split at h
    · rename_i h1 h2
      simp only [Option.some.injEq, Prod.mk.injEq] at h; obtain ⟨_, rfl⟩ := h
      rw [List.flatMap_cons, List.mem_append]
      rcases List.mem_append.1 hi with q | q
      · exact .inl (reify1_frs h1 i q)
      · exact .inr (reifyL_frs h2 i q)
    · cases h
theorem cap1_local {c : AV} (hg : ∀ id ∈ ids1 c, g id = g' id) : cap1 g c = cap1 g' c := by
  cases c <;> first | exact reify1_local hg | (simp only [cap1]; rw [hg _ (by simp [ids1])])
theorem cap1_frs {c r : AV} {f : List Nat} (h : cap1 g c = some (r, f)) : ∀ i ∈ f, i ∈ ids1 c := by
  cases c with
  | ptr id off =>
    simp only [cap1] at h
    split at h
    · split at h
      · simp only [Option.some.injEq, Prod.mk.injEq] at h; obtain ⟨_, rfl⟩ := h; simp [ids1]
      · cases h
    · cases h
  | _ => simp only [cap1] at h; exact reify1_frs h
theorem cap1_ids {c : AV} {p : AV × List Nat} (h : cap1 g c = some p) : idsV c = ids1 c := by
  cases c <;> first | rfl | (simp [cap1, reify1] at h)
theorem capL_local : ∀ {cs : List AV}, (∀ id ∈ cs.flatMap idsV, g id = g' id) → capL g cs = capL g' cs
  | [], _ => rfl
  | c :: r, h => by
    simp only [capL]
    have e : cap1 g c = cap1 g' c := by
      by_cases hx : (∀ cs, c ≠ .agg cs) ∧ (∀ cs, c ≠ .tup cs)
      · refine cap1_local (fun id hi => h id ?_)
        rw [List.flatMap_cons, List.mem_append]; left
        cases c <;> first | exact hi | exact (hx.1 _ rfl).elim | exact (hx.2 _ rfl).elim
      · cases c <;> first | rfl | (exfalso; apply hx; simp)
    rw [e, capL_local (fun id hi => h id (by rw [List.flatMap_cons]; exact List.mem_append.2 (.inr hi)))]
theorem capL_frs : ∀ {cs rs : List AV} {f : List Nat}, capL g cs = some (rs, f) → ∀ i ∈ f, i ∈ cs.flatMap idsV
  | [], rs, f, h, i, hi => by simp only [capL, Option.some.injEq, Prod.mk.injEq] at h; obtain ⟨_, rfl⟩ := h; simp at hi
  | c :: r, rs, f, h, i, hi => by
    simp only [capL] at h
    split at h
    · rename_i h1 h2
      simp only [Option.some.injEq, Prod.mk.injEq] at h; obtain ⟨_, rfl⟩ := h
      rw [List.flatMap_cons, List.mem_append]
      rcases List.mem_append.1 hi with q | q
      · exact .inl (by rw [cap1_ids h1]; exact cap1_frs h1 i q)
      · exact .inr (capL_frs h2 i q)
    · cases h
theorem ids_of_1 {c : AV} (h : ∀ cs, c ≠ .agg cs) (h' : ∀ cs, c ≠ .tup cs) : idsV c = ids1 c := by
  cases c <;> first | rfl | exact (h _ rfl).elim | exact (h' _ rfl).elim
theorem reify_local {c : AV} (hg : ∀ id ∈ idsV c, g id = g' id) : reify g c = reify g' c := by
  cases c <;> first | rfl | skip
  · simp only [reify]; rw [reifyL_local (by simpa [idsV, ids2] using hg)]
  · simp only [reify]; exact reify1_local (by simpa [idsV, ids2] using hg)
theorem reify_frs {c r : AV} {f : List Nat} (h : reify g c = some (r, f)) : ∀ i ∈ f, i ∈ idsV c := by
  intro i hi
  cases c <;> first
    | (simp only [reify] at h; have := reify1_frs h i hi; simpa [idsV, ids2] using this)
    | skip
  · simp only [reify] at h
    split at h
    · rename_i h1
      simp only [Option.some.injEq, Prod.mk.injEq] at h; obtain ⟨_, rfl⟩ := h
      simpa [idsV, ids2] using reifyL_frs h1 i hi
    · cases h
  · simp [reify, reify1] at h
theorem reifyA_local : ∀ {cs : List AV}, (∀ id ∈ cs.flatMap idsV, g id = g' id) → reifyA g cs = reifyA g' cs
  | [], _ => rfl
  | c :: r, h => by
    simp only [reifyA]
    rw [reify_local (fun id hi => h id (by simp [hi])), reifyA_local (fun id hi => h id (by rw [List.flatMap_cons]; exact List.mem_append.2 (.inr hi)))]
theorem reifyA_frs : ∀ {cs rs : List AV} {f : List Nat}, reifyA g cs = some (rs, f) → ∀ i ∈ f, i ∈ cs.flatMap idsV
  | [], rs, f, h, i, hi => by simp only [reifyA, Option.some.injEq, Prod.mk.injEq] at h; obtain ⟨_, rfl⟩ := h; simp at hi
  | c :: r, rs, f, h, i, hi => by
    simp only [reifyA] at h
    split at h
    · rename_i h1 h2
      simp only [Option.some.injEq, Prod.mk.injEq] at h; obtain ⟨_, rfl⟩ := h
      rw [List.flatMap_cons, List.mem_append]
      rcases List.mem_append.1 hi with q | q
      · exact .inl (reify_frs h1 i q)
      · exact .inr (reifyA_frs h2 i q)
    · cases h
theorem cellsR_local : ∀ {ps : List (Nat × Operand)}, (∀ id ∈ (ps.map (·.2)).flatMap (fun x => idsV (lk x)), g id = g' id) → cellsR g lk ps = cellsR g' lk ps
  | [], _ => rfl
  | (i, x) :: r, h => by
    simp only [cellsR]
    rw [reify_local (fun id hi => h id (by simp [hi])), cellsR_local (fun id hi => h id (by rw [List.map_cons, List.flatMap_cons]; exact List.mem_append.2 (.inr hi)))]
theorem cellsR_frs : ∀ {ps : List (Nat × Operand)} {l : List (Nat × List AV)} {f : List Nat}, cellsR g lk ps = some (l, f) → ∀ i ∈ f, i ∈ (ps.map (·.2)).flatMap (fun x => idsV (lk x))
  | [], l, f, h, i, hi => by simp only [cellsR, Option.some.injEq, Prod.mk.injEq] at h; obtain ⟨_, rfl⟩ := h; simp at hi
  | (j, x) :: r, l, f, h, i, hi => by
    simp only [cellsR] at h
    split at h
    · rename_i h1 h2
      split at h
      · simp only [Option.some.injEq, Prod.mk.injEq] at h; obtain ⟨_, rfl⟩ := h
        rw [List.map_cons, List.flatMap_cons, List.mem_append]
        rcases List.mem_append.1 hi with q | q
        · exact .inl (reify_frs h1 i q)
        · exact .inr (cellsR_frs h2 i q)
      · cases h
    · cases h
theorem foot_call {c : Call} {i : Nat} (h : i ∈ (c.args.toList.map lk).flatMap idsV) : i ∈ footA lk (.call c) := by
  unfold footA
  rw [List.mem_flatMap] at h ⊢
  obtain ⟨v, hv, hi⟩ := h
  obtain ⟨x, hx, rfl⟩ := List.mem_map.1 hv
  exact ⟨x, by simp only [Op.operands, Call.operands, Array.toList_append, List.mem_append]; exact .inr hx, hi⟩

theorem eff_local (hF : ∀ f, lk (.func f) = .fn f) (hr : isRefC E.ref op = false) (hg : ∀ id ∈ footA lk op, g id = g' id) (hz : ∀ id ∈ footA lk op, fz id = fz' id) : eff E lk g fz slot op = eff E lk g' fz' slot op := by
  cases op <;> first
    | rfl
    | skip
  case box t x =>
    simp only [eff]
    rw [reify_local (g := g) (g' := g') (fun id hi => hg id (by simpa [footA, Op.operands] using hi))]
  case buildSlice t n ps =>
    simp only [eff]
    rw [cellsR_local (g := g) (g' := g') (lk := lk) (fun id hi => hg id (by simpa [footA, Op.operands] using hi))]
  case load t x =>
    simp only [eff]
    split
    · rename_i id off e1
      rw [hg id (by simp [footA, Op.operands, e1, idsV, ids2, ids1])]
    · rfl
    · rfl
  case store t x y =>
    simp only [eff]
    split
    · rename_i id off e1
      rw [hg id (by simp [footA, Op.operands, e1, idsV, ids2, ids1]), hz id (by simp [footA, Op.operands, e1, idsV, ids2, ids1]), reify_local (g := g) (g' := g') (fun id hi => hg id (by simp [footA, Op.operands]; exact .inr hi))]
    · rfl
  case lookup t x i ok =>
    simp only [eff]
    split
    · rename_i id htd e1
      rw [hg id (by simp [footA, Op.operands, e1, idsV, ids2, ids1])]
    · rfl
  case mapUpdate t m i x =>
    simp only [eff]
    split
    · rename_i id htd e1
      rw [hg id (by simp [footA, Op.operands, e1, idsV, ids2, ids1]), hz id (by simp [footA, Op.operands, e1, idsV, ids2, ids1]), reify_local (g := g) (g' := g') (fun id hi => hg id (by simp [footA, Op.operands]; exact .inr (.inr hi)))]
    · rfl
  case insert t m i x =>
    simp only [eff]
    split
    · rename_i id htd e1
      rw [hg id (by simp [footA, Op.operands, e1, idsV, ids2, ids1]), hz id (by simp [footA, Op.operands, e1, idsV, ids2, ids1]), reify_local (g := g) (g' := g') (fun id hi => hg id (by simp [footA, Op.operands]; exact .inr (.inr hi)))]
    · rfl
  case convert s d x =>
    simp only [eff]
    have h1 : reify1 g (lk x) = reify1 g' (lk x) := by
      by_cases hx : (∀ cs, lk x ≠ .agg cs) ∧ (∀ cs, lk x ≠ .tup cs)
      · exact reify1_local (fun id hi => hg id (by simp [footA, Op.operands]; rw [ids_of_1 hx.1 hx.2]; exact hi))
      · have : ∀ g, reify1 g (lk x) = none := by
          intro g
          cases hq : lk x <;> first | rfl | (exfalso; apply hx; rw [hq]; exact ⟨by simp, by simp⟩)
        rw [this g, this g']
    generalize lk x = c at h1 ⊢
    split <;> first | rfl | (rw [h1])
  case slice t x lo hi mx =>
    simp only [eff]
    split <;> first | rfl | skip
    rename_i id off e1
    rw [hg id (by simp [footA, Op.operands, e1, idsV, ids2, ids1])]
  case makeFunc f first cap =>
    simp only [eff]
    split
    · rw [capL_local (g := g) (g' := g') (fun id hi => hg id (by simp only [List.flatMap_map] at hi; simp only [footA, Op.operands, Array.toList_append, List.flatMap_append, List.mem_append]; exact .inr hi))]
    · rfl
  case call c =>
    obtain ⟨ce, as, ts⟩ := c
    cases ce with
    | invoke a b => rfl
    | builtin b =>
      cases b <;> first | rfl | skip
      · simp only [eff]
        split
        · rename_i x y t t' ha _
          have hid : ∀ i, i ∈ idsV x ∨ i ∈ idsV y → i ∈ footA lk (.call ⟨.builtin .append, as, ts⟩) := fun i hi => foot_call (by simp only; rw [ha]; simpa using hi)
          have hsrc : ∀ sz, srcA g sz y = srcA g' sz y := by
            intro sz
            unfold srcA
            split <;> first | rfl | (rw [hg _ (hid _ (.inr (by simp [idsV, ids2, ids1])))])
          have happ : ∀ sz bytes m ds, appA g fz slot sz bytes x m ds = appA g' fz' slot sz bytes x m ds := by
            intro sz bytes m ds
            unfold appA
            split <;> first | rfl | (rw [hg _ (hid _ (.inl (by simp [idsV, ids2, ids1]))), hz _ (hid _ (.inl (by simp [idsV, ids2, ids1])))])
          simp only [hsrc, happ]
        · rfl
      · simp only [eff]
        split
        · rename_i x y t t' ha _
          have hid : ∀ i, i ∈ idsV x ∨ i ∈ idsV y → i ∈ footA lk (.call ⟨.builtin .copy, as, ts⟩) := fun i hi => foot_call (by simp only; rw [ha]; simpa using hi)
          have hsrc : ∀ sz, srcA g sz y = srcA g' sz y := by
            intro sz
            unfold srcA
            split <;> first | rfl | (rw [hg _ (hid _ (.inr (by simp [idsV, ids2, ids1])))])
          split
          · rw [hsrc, hg _ (hid _ (.inl (by simp [idsV, ids2, ids1]))), hz _ (hid _ (.inl (by simp [idsV, ids2, ids1])))]
          · rfl
        · rfl
    | value x =>
      have hnr : ∀ f, lk x = .fn f → (isF x && E.ref f) = false := by
        intro f hf
        cases x with
        | func f' => rw [hF] at hf; cases hf; simpa [isF, isRefC] using hr
        | _ => simp [isF]
      simp only [eff]
      split
      · rename_i f hf
        rw [hnr f hf]
        simp only [Bool.false_eq_true, if_false]
        rw [reifyA_local (g := g) (g' := g') (fun id hi => hg id (foot_call hi))]
      · rw [reifyA_local (g := g) (g' := g') (fun id hi => hg id (foot_call hi))]
      · rfl

theorem eff_foot2 (hF : ∀ f, lk (.func f) = .fn f) (hr : isRefC E.ref op = false) (he : eff E lk g fz slot op = some e) : (∀ p ∈ e.sets, (p.1 = slot ∧ isAlloc E.ref op = true) ∨ p.1 ∈ footA lk op) ∧ ∀ i ∈ e.frs, i ∈ footA lk op := by
  have nn : ∀ {v : AV}, some (⟨v, [], []⟩ : Eff) = some e → (∀ p ∈ e.sets, (p.1 = slot ∧ isAlloc E.ref op = true) ∨ p.1 ∈ footA lk op) ∧ ∀ i ∈ e.frs, i ∈ footA lk op := fun h => by cases h; exact ⟨by simp [isAlloc], by simp⟩
  cases op with
  | move x => exact nn he
  | assign x => exact nn he
  | pick c x y => simp only [eff] at he; (repeat' split at he); all_goals (first | exact nn he | cases he)
  | alloc t =>
    simp only [eff] at he; (repeat' split at he)
    all_goals (first | (cases he; exact ⟨by simp [isAlloc], by simp⟩) | cases he)
  | box t x =>
    simp only [eff] at he
    split at he
    · split at he
      · rename_i h1
        cases he
        exact ⟨by simp [isAlloc], fun i hi => by have := reify_frs h1 i hi; simpa [footA, Op.operands] using this⟩
      · cases he
    · split at he
      · split at he
        · rename_i h1
          cases he
          exact ⟨by simp [isAlloc], fun i hi => by have := reify_frs h1 i hi; simpa [footA, Op.operands] using this⟩
        · cases he
      · (repeat' split at he)
        all_goals (first | (cases he; exact ⟨by simp [isAlloc], by simp⟩) | cases he)
    · (repeat' split at he)
      all_goals (first | (cases he; exact ⟨by simp [isAlloc], by simp⟩) | cases he)
  | build t ps => simp only [eff] at he; (repeat' split at he); all_goals (first | exact nn he | cases he)
  | buildSlice t n ps =>
    simp only [eff] at he
    split at he
    · rename_i h1
      (repeat' split at he)
      all_goals (first | (cases he; exact ⟨by simp [isAlloc], fun i hi => by have := cellsR_frs h1 i hi; simpa [footA, Op.operands] using this⟩) | cases he)
    · cases he
  | load t x => simp only [eff] at he; (repeat' split at he); all_goals (first | exact nn he | cases he)
  | store t x y =>
    simp only [eff] at he
    split at he
    · rename_i id off e1
      split at he
      · split at he
        · (repeat' split at he)
          all_goals (first | (cases he; exact ⟨by simp [footA, Op.operands, e1, idsV, ids2, ids1], by simp⟩) | cases he)
        · split at he
          · rename_i h1
            (repeat' split at he)
            all_goals (first | (cases he; exact ⟨by simp [footA, Op.operands, e1, idsV, ids2, ids1], fun i hi => by have := reify_frs h1 i hi; simp [footA, Op.operands]; exact .inr this⟩) | cases he)
          · cases he
        · cases he
      · cases he
    · cases he
  | nilCheck x => simp only [eff] at he; (repeat' split at he); all_goals (first | exact nn he | cases he)
  | binOp a b c d f => simp only [eff] at he; (repeat' split at he); all_goals (first | exact nn he | cases he)
  | unOp a b c => simp only [eff] at he; (repeat' split at he); all_goals (first | exact nn he | cases he)
  | convert a b c => simp only [eff] at he; (repeat' split at he); all_goals (first | exact nn he | cases he)
  | makeSlice t x y =>
    simp only [eff] at he; (repeat' split at he)
    all_goals (first | (cases he; exact ⟨by simp [isAlloc], by simp⟩) | cases he)
  | slice t x a b c => simp only [eff] at he; (repeat' split at he); all_goals (first | exact nn he | cases he)
  | fieldAddr t x f => simp only [eff] at he; (repeat' split at he); all_goals (first | exact nn he | cases he)
  | field t x f => simp only [eff] at he; (repeat' split at he); all_goals (first | exact nn he | cases he)
  | indexAddr t x y => simp only [eff] at he; (repeat' split at he); all_goals (first | exact nn he | cases he)
  | index t x y => simp only [eff] at he; (repeat' split at he); all_goals (first | exact nn he | cases he)
  | makeMap t r => simp only [eff] at he; (repeat' split at he); all_goals (first | (cases he; exact ⟨by simp [isAlloc], by simp⟩) | cases he)
  | lookup t x i ok => simp only [eff] at he; (repeat' split at he); all_goals (first | exact nn he | cases he)
  | mapUpdate t m i x =>
    simp only [eff] at he
    split at he
    · rename_i e1
      split at he
      · split at he
        · split at he
          · split at he
            · rename_i h1
              (repeat' split at he)
              all_goals (first | (cases he; exact ⟨by simp [footA, Op.operands, e1, idsV, ids2, ids1], fun i hi => by have := reify_frs h1 i hi; simp [footA, Op.operands]; exact .inr (.inr this)⟩) | cases he)
            · cases he
          · cases he
        · cases he
      · cases he
    · cases he
  | insert t m i x =>
    simp only [eff] at he
    split at he
    · rename_i e1
      split at he
      · split at he
        · split at he
          · split at he
            · rename_i h1
              (repeat' split at he)
              all_goals (first | (cases he; exact ⟨by simp [footA, Op.operands, e1, idsV, ids2, ids1], fun i hi => by have := reify_frs h1 i hi; simp [footA, Op.operands]; exact .inr (.inr this)⟩) | cases he)
            · cases he
          · cases he
        · cases he
      · cases he
    · cases he
  | makeFunc f first cap =>
    simp only [eff] at he
    split at he
    · split at he
      · rename_i h1
        cases he
        exact ⟨by simp, fun i hi => by have := capL_frs h1 i hi; simp only [List.flatMap_map] at this; simp only [footA, Op.operands, Array.toList_append, List.flatMap_append, List.mem_append]; exact .inr this⟩
      · cases he
    · cases he
  | extract x i => simp only [eff] at he; (repeat' split at he); all_goals (first | exact nn he | cases he)
  | call c =>
    obtain ⟨ce, as, ts⟩ := c
    cases ce with
    | invoke a b => simp only [eff, reduceCtorEq] at he
    | builtin b =>
      cases b <;> first
        | (simp only [eff, reduceCtorEq] at he; done)
        | skip
      · -- append
        simp only [eff] at he
        split at he
        · rename_i x y t t' ha _
          have hid : ∀ i, i ∈ idsV x → i ∈ footA lk (.call ⟨.builtin .append, as, ts⟩) := fun i hi => foot_call (by simp only; rw [ha]; simp [hi])
          split at he
          · split at he
            · cases he
            · unfold appA at he
              split at he
              · split at he
                · cases he; exact ⟨by simp [isAlloc], by simp⟩
                · cases he
              · split at he
                · split at he
                  · split at he
                    · cases he
                      refine ⟨?_, by simp⟩
                      simp only [List.mem_cons, List.not_mem_nil, or_false]
                      rintro p (rfl | rfl)
                      · exact .inr (hid _ (by simp [idsV, ids2, ids1]))
                      · exact .inl ⟨rfl, rfl⟩
                    · cases he
                  · cases he
                · cases he
              · cases he
          · cases he
        · cases he
      all_goals first
        | (simp only [eff] at he; (repeat' split at he); all_goals (first | exact nn he | (cases he; done)); done)
        | skip
      · -- copy
        simp only [eff] at he
        split at he
        · rename_i x y t t' ha _
          have hid : ∀ i, i ∈ idsV x → i ∈ footA lk (.call ⟨.builtin .copy, as, ts⟩) := fun i hi => foot_call (by simp only; rw [ha]; simp [hi])
          split at he
          · split at he
            · split at he
              · split at he
                · split at he
                  · cases he
                    refine ⟨?_, by simp⟩
                    simp only [List.mem_cons, List.not_mem_nil, or_false]
                    rintro p rfl
                    exact .inr (hid _ (by simp [idsV, ids2, ids1]))
                  · cases he
                · cases he
              · cases he
            · cases he
          · cases he
        · cases he
    | value x =>
      have hnr : ∀ f, lk x = .fn f → (isF x && E.ref f) = false := by
        intro f hf
        cases x with
        | func f' => rw [hF] at hf; cases hf; simpa [isF, isRefC] using hr
        | _ => simp [isF]
      simp only [eff] at he
      split at he
      · rename_i f hf
        rw [hnr f hf] at he
        simp only [Bool.false_eq_true, if_false] at he
        split at he
        · rename_i h1
          split at he
          · cases he
            refine ⟨by simp, fun i hi => ?_⟩
            split at hi
            · exact foot_call (reifyA_frs h1 i hi)
            · simp at hi
          · cases he
        · cases he
      · split at he
        · rename_i h1
          split at he
          · cases he
            refine ⟨by simp, fun i hi => ?_⟩
            split at hi
            · exact foot_call (reifyA_frs h1 i hi)
            · simp at hi
          · cases he
        · cases he
      · cases he
  | _ => simp only [eff, reduceCtorEq] at he
end
end Go.Proofs.Ytpbaloceljfaoaa.Ab
