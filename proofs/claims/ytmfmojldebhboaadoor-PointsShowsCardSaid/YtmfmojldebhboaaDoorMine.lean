/- Lemmas of this session's beside the printed words: make with a room of its own, a string's bytes as a row that is read. -/
import Derived.Test.YtmfmojldebhboaaDoorWMore
import Derived.Laws.MakeOwn
import Derived.Laws.AppendOwn
import Derived.Lib.ConvBytes
import Derived.Lib.SliceRun
namespace Go.Proofs.YtmfmojldebhboaaDoorW.PrintMore
open Go.RowKit Go.Proofs.YtmfmojldebhboaaDoorW.PrintWords Go.Proofs.YtmfmojldebhboaaDoorW.PrintLast
set_option linter.unusedVariables false
set_option linter.unusedSimpArgs false
/-- Short names, for the printed texts. -/
theorem am {p : Prop} (h : p) : Aside0 p := ⟨h⟩
theorem iteS {α : Type} {c : Prop} [Decidable c] {a : Option α} {r : α} (h : (if c then a else none) = some r) : c ∧ a = some r := by
  by_cases hc : c
  · rw [if_pos hc] at h
    exact ⟨hc, h⟩
  · rw [if_neg hc] at h
    cases h
theorem nel {w : World} {x y : Nat} {o : Obj} (hg : y = w.heap.size) (h : w.heap[x]? = some o) : x ≠ y := by
  rw [hg]
  exact Nat.ne_of_lt (Array.getElem?_eq_some_iff.1 h).1
theorem ner {w : World} {x y : Nat} {o : Obj} (hg : y = w.heap.size) (h : w.heap[x]? = some o) : y ≠ x := fun e => nel hg h e.symm
theorem gel {b g : Nat} {w W : World} (hg : g = W.heap.size) (h : Below b w W) (hb : b = w.heap.size := by rfl) : b ≤ g := by
  rw [hg, hb]
  exact h.size
theorem sI_ {α : Type} (xs : List α) (i : Nat) (a : α) : xs.toArray.setIfInBounds i a = (xs.set i a).toArray := List.setIfInBounds_toArray xs i a
theorem s0_ {α : Type} (x a : α) (xs : List α) : (x :: xs).set 0 a = a :: xs := List.set_cons_zero ..
theorem s1_ {α : Type} (x a : α) (xs : List α) (i : Nat) : (x :: xs).set (i + 1) a = x :: xs.set i a := List.set_cons_succ ..
/-- What a call gave, and what follows it. -/
theorem bindE {α β : Type} {g : Option α} {f : α → Option β} {r : β} (h : g.bind f = some r) : ∃ a, Aside0 (g = some a) ∧ f a = some r := by
  obtain ⟨a, h1, h2⟩ := Option.bind_eq_some_iff.mp h
  exact ⟨a, ⟨h1⟩, h2⟩
theorem ownBlock_norm (A : Option Addr) (n c : Nat) : (Value.slice A n c).ownBlock = A.map Addr.block := by cases A <;> rfl
theorem zw_u32 (x : Int) : wrap64 (IntKind.u32.wrap x) = x % 4294967296 := by rw [IntKind.wrap_u32]; unfold wrap64; omega
theorem zw_u8 (x : Int) : wrap64 (IntKind.u8.wrap x) = x % 256 := by rw [IntKind.wrap_u8]; unfold wrap64; omega
theorem zw_u32' (x : Int) : wrap64 (x % 4294967296) = x % 4294967296 := by unfold wrap64; omega
theorem zw_u8' (x : Int) : wrap64 (x % 256) = x % 256 := by unfold wrap64; omega
namespace Kd
open Go.Proofs.YtmfmojldebhboaaDoorW.PrintWords.Kd
section
variable {P : Program} {ops : Array Oper} {rest : List Oper} {o : Oper} {a : Act} {Q : Exit → Act → World → Prop}
variable {α : Type}
/-- make([]T, 0, n): an empty row of one's own, with room. -/
theorem R_makec (d : Kd α) {w0 W : World} (base e : Nat) (hgd : o.guard = none) {N : Tmp} (hd : o.dst = some N) (t : TypeId) (x y : Operand) (ho : o.op = .makeSlice t x y) (n : Int) (hx : a.eval x = .int .i64 0) (hy : a.eval y = .int .i64 n)
    (ht : P.underlying t = some (.slice e)) (z : Value) (bytes : Nat) (hinfo : (P.info? e).map (fun i => (i.zero, i.size, i.bytes)) = some (some z, d.sz, bytes)) (hz : z.cells.size = d.sz) (hs0 : 0 < d.sz) (hb0 : 0 < bytes)
    {ok : Nat → Prop} (hfresh : ok W.heap.size) (h0 : 0 ≤ n) (hl : n.toNat * bytes ≤ 281474976710656) (HB : Below base w0 W) (hbase : base ≤ W.heap.size)
    (h : ∀ v1 w1, d.R e w1 base ok v1 ([] : List α) → Below base w0 w1 → W.grownBy w1 none → (∃ b, v1.ownBlock = some b ∧ W.heap.size ≤ b) → wpList P ops Q rest (a.put o.dst v1) w1) : wpList P ops Q (o :: rest) a W := by
  obtain ⟨m, rfl⟩ := Int.eq_ofNat_of_zero_le h0
  simp only [Int.toNat_natCast] at hl h
  obtain ⟨i0, hi, hzz⟩ := Option.map_eq_some_iff.1 hinfo
  simp only [Prod.mk.injEq] at hzz
  obtain ⟨hz0, hz1, hz2⟩ := hzz
  have hm : m ≤ 281474976710656 := Nat.le_trans (Nat.le_mul_of_pos_right _ hb0) hl
  have hr := run_make (P := P) W t e i0 z ht hi hz0 .i64 .i64 0 (m : Int) (by omega) (by omega)
    (by
      have h3 : ((i0.bytes * m : Nat) : Int) ≤ 281474976710656 := by rw [hz2, Nat.mul_comm]; omega
      rwa [Int.natCast_mul] at h3) (by omega)
  simp only [Int.toNat_natCast] at hr
  rw [hz1] at hr
  refine event_run hgd (w1 := W.alloc (.cells (madeCells z.cells (m * d.sz)) e)) (v := .slice (some ⟨W.heap.size, 0, none⟩) 0 m) ?_ (h _ _ ⟨fun k hk => ?_, [], ?_, Reps.none _ _⟩ (HB.alloc hbase _) (World.grownBy_alloc W _ none) ⟨W.heap.size, by simp [Value.ownBlock], Nat.le_refl _⟩)
  · simp [execOp, ho, hx, hy, hr]
  · have : W.heap.size = k := by simpa [Value.ownBlock] using hk
    subst this
    exact hfresh
  · exact World.ownsRow_made W _ m hbase (by simp only [maxLen]; omega) (by simp [size_madeCells])
/-- []byte(s), read alone: what it leads to is new. -/
theorem V_bytes {w0 W : World} (base e : Nat) (hgd : o.guard = none) {N : Tmp} (hd : o.dst = some N) (src dst : TypeId) (x : Operand) (ho : o.op = .convert src dst x) (s : ByteArray) (hx : a.eval x = .string s) {u : TypeDesc}
    (hs : P.underlying src = some u) (ht : P.underlying dst = some (.slice e)) (he : P.underlying e = some (.int .u8)) (hl : s.size ≤ 9223372036854775807) (HB : Below base w0 W) (hbase : base ≤ W.heap.size)
    (h : ∀ v1 w1, V (Kd.int .u8) e w1 base (fun k_ => W.heap.size ≤ k_) v1 (bytesOf s) → Below base w0 w1 → W.grownBy w1 none → True → wpList P ops Q rest (a.put o.dst v1) w1) : wpList P ops Q (o :: rest) a W := by
  have hr := Lib.run_convert_string_bytes (P := P) W src dst e s hs ht he
  have hb := bytes_below HB hbase e s
  have hcap : s.size ≤ grownCap W s.size 0 e := grownCap_ge W s.size 0 e
  refine event_run hgd (w1 := Lib.bytesWorld W e s) (v := .slice (some ⟨W.heap.size, 0, none⟩) s.size (grownCap W s.size 0 e)) ?_ (h _ _ ?_ hb ?_ trivial)
  · simp [execOp, ho, hx, hr]
  · have hlen := bytesOf_length s
    rw [← hlen]
    refine V_mk (by rw [hlen]; exact hcap) ?_
    intro W' hW
    have h1 : W'.heap[W.heap.size]? = (Lib.bytesWorld W e s).heap[W.heap.size]? := hW W.heap.size (Nat.le_refl _) (by rw [Lib.bytesWorld_size]; omega)
    refine C_of_reads (h1 := fun _ => rfl) (d := (0 : Int)) ?_
    have h2 := readsInt_of.1 (bytes_reads W e s hl)
    rw [hlen]
    refine ⟨h2.1, h2.2.1, fun hn => ?_⟩
    obtain ⟨ad, ha, hc⟩ := h2.2.2 hn
    refine ⟨ad, ha, fun j hj => ?_⟩
    have := hc j hj
    injection ha with ha
    subst ha
    rw [← this, add_plain]
    simp only [World.cell?]
    rw [h1]
  · exact ⟨rfl, rfl, rfl, by rw [Lib.bytesWorld_size]; omega, fun i hi _ => Lib.bytesWorld_at_old W e s i hi⟩
end
end Kd
/-- A row of numbers that lies in a window of block g: L stands ahead of it, R_ behind it. -/
def RW (L R_ : List Value) (k : IntKind) (e : Nat) (w : World) (base g : Nat) (v : Value) (xs : List Int) : Prop :=
  ∃ c, v = .slice (some ⟨g, L.length, none⟩) xs.length c ∧ xs.length ≤ c ∧ base ≤ g ∧ xs.length ≤ 9223372036854775807 ∧ w.heap[g]? = some (.cells (L ++ nums k xs ++ R_).toArray e (0, 0))
section
variable {L R_ : List Value} {k : IntKind} {e base g : Nat} {w w1 : World} {v : Value} {xs : List Int}
theorem RW_slice (h : RW L R_ k e w base g v xs) : ∃ A c, v = .slice A xs.length c := by
  obtain ⟨c, hv, _⟩ := h
  exact ⟨_, c, hv⟩
theorem RW_move (h : RW L R_ k e w base g v xs) (hm : w1.heap[g]? = w.heap[g]?) : RW L R_ k e w1 base g v xs := by
  obtain ⟨c, hv, hc, hb, hl, hh⟩ := h
  exact ⟨c, hv, hc, hb, hl, hm.trans hh⟩
theorem RW_lt (h : RW L R_ k e w base g v xs) : g < w.heap.size := by
  obtain ⟨c, hv, hc, hb, hl, hh⟩ := h
  exact (Array.getElem?_eq_some_iff.1 hh).1
theorem RW_alloc (h : RW L R_ k e w base g v xs) (o : Obj) : RW L R_ k e (w.alloc o) base g v xs := RW_move h (by
  have := RW_lt h
  simp [World.alloc, -World.alloc_eq, Array.getElem?_push, Nat.ne_of_lt this])
theorem RW_drew (h : RW L R_ k e w base g v xs) : RW L R_ k e w.drew base g v xs := RW_move h rfl
theorem RW_drewN (h : RW L R_ k e w base g v xs) (m : Nat) : RW L R_ k e (w.drewN m) base g v xs := RW_move h rfl
theorem RW_blk {A : Option Addr} {g' o n c : Nat} (h : RW L R_ k e w base g (.slice (some ⟨g', o, none⟩) n c) xs) : g' = g := by
  obtain ⟨c, hv, _⟩ := h
  injection hv with h1 h2 h3
  injection h1 with h1
  injection h1
theorem RW_at {A : Option Addr} {n c : Nat} (h : RW L R_ k e w base g (.slice A n c) xs) : A = some ⟨g, L.length, none⟩ ∧ n = xs.length ∧ n ≤ c := by
  obtain ⟨c, hv, hc, _⟩ := h
  injection hv with h1 h2 h3
  subst h2; subst h3
  exact ⟨h1, rfl, hc⟩
theorem RW_cells (h : RW L R_ k e w base g v xs) (j : Nat) (hj : j < xs.length) : w.cell? ⟨g, L.length + j, none⟩ = some (.int k (xs.getD j 0)) ∧ w.frozen? ⟨g, L.length + j, none⟩ = false := by
  obtain ⟨c, hv, hc, hb, hl, hh⟩ := h
  refine ⟨?_, by simp [World.frozen?, hh]⟩
  rw [cell_of_row w g (L.length + j) _ e (0, 0) hh]
  have h1 : j < (nums k xs).length := by rw [nums_length]; exact hj
  rw [List.getElem?_toArray, List.append_assoc, List.getElem?_append_right (by omega), Nat.add_sub_cancel_left, List.getElem?_append_left h1]
  simp [nums, List.getD_eq_getElem?_getD, List.getElem?_eq_getElem hj]
theorem RW_reads' {A : Option Addr} {n c : Nat} (h : RW L R_ k e w base g (.slice A n c) xs) : n = xs.length ∧ n ≤ c ∧ Kd.C (Kd.int k) w A xs.length xs := by
  obtain ⟨h1, h2, h3⟩ := RW_at h
  have h' := h
  obtain ⟨_, _, _, _, hl, _⟩ := h'
  refine ⟨h2, h3, Kd.C_of_reads (h1 := fun _ => rfl) (d := (0 : Int)) ⟨rfl, hl, fun hn => ⟨_, h1, fun j hj => ?_⟩⟩⟩
  rw [add_at]
  exact (RW_cells h j hj).1
theorem RW_form (h : RW L R_ k e w base g v xs) (hp : 0 < xs.length) : ∃ g' cap, v = .slice (some ⟨g', L.length, none⟩) xs.length cap ∧ base ≤ g' ∧ g' < w.heap.size ∧ ∃ cells, w.heap[g']? = some (.cells cells e (0, 0)) := by
  have hlt := RW_lt h
  obtain ⟨c, hv, hc, hb, hl, hh⟩ := h
  exact ⟨g, c, hv, hb, hlt, _, hh⟩
theorem RW_celln {g' n c : Nat} (h : RW L R_ k e w base g (.slice (some ⟨g', L.length, none⟩) n c) xs) (i : Int) (h0 : 0 ≤ i) (hi : i < n) : w.cell? ⟨g', L.length + i.toNat, none⟩ = some (.int k (rd xs i)) ∧ w.frozen? ⟨g', L.length + i.toNat, none⟩ = false := by
  obtain rfl := RW_blk (A := none) h
  have h2 := (RW_at h).2.1
  exact RW_cells h i.toNat (by omega)
theorem RW_putg {g' n c : Nat} (h : RW L R_ k e w base g (.slice (some ⟨g', L.length, none⟩) n c) xs) (i : Int) (h0 : 0 ≤ i) (hi : i < n) (x : Int) : RW L R_ k e (w.setCell ⟨g', L.length + i.toNat, none⟩ (.int k x)) base g (.slice (some ⟨g', L.length, none⟩) n c) (xs.set i.toNat x) ∧ w.grownBy (w.setCell ⟨g', L.length + i.toNat, none⟩ (.int k x)) (some g') := by
  obtain rfl := RW_blk (A := none) h
  have hlt := RW_lt h
  obtain ⟨c', hv, hc, hb, hl, hh⟩ := h
  injection hv with h1 h2 h3
  subst h2
  refine ⟨⟨c', by rw [List.length_set, h3], by rw [List.length_set]; exact hc, hb, by rw [List.length_set]; exact hl, ?_⟩, ?_⟩
  · rw [blk_set hh]
    have h4 : i.toNat < (nums k xs).length := by rw [nums_length]; omega
    have : (L ++ nums k xs ++ R_).set (L.length + i.toNat) (.int k x) = L ++ nums k (xs.set i.toNat x) ++ R_ := by
      rw [List.append_assoc, List.set_append_right _ _ (by omega), Nat.add_sub_cancel_left, List.set_append_left _ _ h4, ← List.append_assoc]
      congr 2
      simp [nums, List.map_set]
    rw [← this]
    simp
  · exact ⟨rfl, rfl, rfl, by simp [World.setCell], fun j _ hne => Below.heap_setCell w _ _ j (fun he => hne (by rw [he]))⟩
theorem nums_encs (k : IntKind) (xs : List Int) : encs (Value.int k) xs = nums k xs := rfl
/-- A piece of a row of one's own: it lies in a window; and what then lies in the window is a piece of the row. -/
theorem RW_of_R {ok : Nat → Prop} {A_ AW : Option Addr} {m_ c_ nW cW : Nat} (h : Kd.R (Kd.int k) e w base ok (.slice A_ m_ c_) xs) (lo hi : Int) (h0 : 0 ≤ lo) (h1 : lo < hi) (h2 : hi ≤ (xs.length : Int))
    (hA : AW = (if c_ = lo.toNat then A_ else A_.map (·.add (lo.toNat * 1)))) (hn : nW = hi.toNat - lo.toNat) (hc : nW ≤ cW) :
    ∃ (g : Nat) (R_ : List Value), RW (nums k (xs.take lo.toNat)) R_ k e w base g (.slice AW nW cW) ((xs.take hi.toNat).drop lo.toNat) ∧ ok g ∧
      ∀ w' ys, RW (nums k (xs.take lo.toNat)) R_ k e w' base g (.slice AW nW cW) ys → ys.length = hi.toNat - lo.toNat → ∀ {ok' : Nat → Prop}, (∀ k, ok k → ok' k) → Kd.R (Kd.int k) e w' base ok' (.slice A_ m_ c_) (xs.take lo.toNat ++ ys ++ xs.drop hi.toNat) := by
  have ho := Kd.own_of_R h
  have hm := (Kd.R_reads' h).1
  have hmax := Kd.C_max (Kd.R_reads' h).2.2
  rcases ho.2 with ⟨he, h00⟩ | ⟨g, cap, cur, he, hb, hh, hnc, hcm, hcs, ht⟩
  · omega
  injection he with ha hb2 hc2
  subst ha; subst hc2
  rw [nums_encs, Nat.mul_one] at ht
  have hlo : lo.toNat < xs.length := by omega
  have hsz : cur.toList.length = c_ := by rw [Array.length_toList, hcs, Nat.mul_one]
  have hAW : AW = some ⟨g, (nums k (xs.take lo.toNat)).length, none⟩ := by
    rw [hA, if_neg (by omega), nums_length, List.length_take]
    simp [add_at, Nat.min_eq_left (Nat.le_of_lt hlo)]
  have hlen : ((xs.take hi.toNat).drop lo.toNat).length = nW := by rw [List.length_drop, List.length_take]; omega
  have hsplit : xs = xs.take lo.toNat ++ (xs.take hi.toNat).drop lo.toNat ++ xs.drop hi.toNat := by
    have e1 : xs.take lo.toNat = (xs.take hi.toNat).take lo.toNat := by rw [List.take_take, Nat.min_eq_left (by omega)]
    rw [e1, List.take_append_drop, List.take_append_drop]
  have hcur : cur.toList = nums k xs ++ cur.toList.drop xs.length := by
    conv => lhs; rw [← List.take_append_drop xs.length cur.toList]
    rw [ht]
  refine ⟨g, nums k (xs.drop hi.toNat) ++ cur.toList.drop xs.length, ⟨cW, by rw [hAW, hlen], by rw [hlen]; exact hc, hb, by omega, ?_⟩, h.1 g rfl, ?_⟩
  · have hc0 : cur = (nums k (xs.take lo.toNat) ++ nums k ((xs.take hi.toNat).drop lo.toNat) ++ (nums k (xs.drop hi.toNat) ++ cur.toList.drop xs.length)).toArray := by
      apply Array.toList_inj.1
      simp only []
      rw [← List.append_assoc, ← nums_append, ← nums_append, ← hsplit]
      exact hcur
    rw [hh, ← hc0]
  · intro w' ys hw hy ok' hok
    obtain ⟨c2, hv, hc3, hb3, hl3, hh3⟩ := hw
    refine Kd.R_of_own ?_ (fun k' hk' => hok k' (h.1 k' hk'))
    have hl4 : (xs.take lo.toNat ++ ys ++ xs.drop hi.toNat).length = xs.length := by simp only [List.length_append, List.length_take, List.length_drop]; omega
    rw [nums_encs]
    refine ⟨by rw [nums_length, Nat.mul_one], .inr ⟨g, c_, _, by rw [hl4, hm], hb, hh3, by omega, hcm, ?_, ?_⟩⟩
    · have h7 : (cur.toList.drop xs.length).length = c_ - xs.length := by rw [List.length_drop, hsz]
      simp only [List.size_toArray, List.length_append, nums_length, List.length_take, List.length_drop, Array.length_toList, Nat.mul_one]
      rw [Array.length_toList] at hsz
      omega
    · rw [Nat.mul_one, hl4]
      show (nums k (xs.take lo.toNat) ++ nums k ys ++ (nums k (xs.drop hi.toNat) ++ cur.toList.drop xs.length)).take xs.length = _
      rw [← List.append_assoc, ← nums_append, ← nums_append, List.take_append_of_le_length (by rw [nums_length]; omega), List.take_of_length_le (by rw [nums_length]; omega)]
end
end Go.Proofs.YtmfmojldebhboaaDoorW.PrintMore
