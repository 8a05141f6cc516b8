-- printed by zprint.py, a program of this session's
import Derived.Test.YtmfmojldebhboaaZWhole0
namespace Go.Proofs.Ytmfmojldebhboaa.ZWhole
open Go.RowKit Go.Proofs.YtmfmojldebhboaaW.PrintWords Go.Proofs.YtmfmojldebhboaaW.PrintLast Go.Proofs.YtmfmojldebhboaaW.PrintMore
set_option linter.unusedVariables false
set_option linter.unusedSimpArgs false

/-! ### nat_off: function 117 -/
def nat_off.l0 : Nat → List Int → List Int → Int → Int → Int → Int → Int → Option (Bool × List Int)
 | 0, _, _, _, _, _, _, _ => none
 | k + 1, x0, x1, x2, x7, x8, x12, x13 => if x13 < x12 then (if x13 < (x1.length : Int) then (if 0 ≤ x13 then (if x13 < (x0.length : Int) then (nat_off.l0 k (x0.set (x13 : Int).toNat ((IntKind.u64.wrap ((IntKind.u64.wrap ((IntKind.u64.wrap (rd x0 x13)) - ((IntKind.u64.wrap (x7 + (IntKind.u64.wrap (x2 * (IntKind.u64.wrap (rd x1 x13)))))) % 4294967296))) - x8)) % 4294967296)) x1 x2 ((IntKind.u64.wrap (x7 + (IntKind.u64.wrap (x2 * (IntKind.u64.wrap (rd x1 x13)))))) / 4294967296) ((IntKind.u64.wrap ((IntKind.u64.wrap ((IntKind.u64.wrap (rd x0 x13)) - ((IntKind.u64.wrap (x7 + (IntKind.u64.wrap (x2 * (IntKind.u64.wrap (rd x1 x13)))))) % 4294967296))) - x8)) / 9223372036854775808) x12 (wrap64 (x13 + 1))) else (none)) else (none)) else (if 0 ≤ x13 then (if x13 < (x0.length : Int) then (nat_off.l0 k (x0.set (x13 : Int).toNat ((IntKind.u64.wrap ((IntKind.u64.wrap ((IntKind.u64.wrap (rd x0 x13)) - ((x7) % 4294967296))) - x8)) % 4294967296)) x1 x2 (x7 / 4294967296) ((IntKind.u64.wrap ((IntKind.u64.wrap ((IntKind.u64.wrap (rd x0 x13)) - ((x7) % 4294967296))) - x8)) / 9223372036854775808) x12 (wrap64 (x13 + 1))) else (none)) else (none))) else (some ((x8 != 0), x0))
def nat_off.f (k : Nat) (l0 : List Int) (l1 : List Int) (a2 : Int) : Option (Bool × List Int) := nat_off.l0 k l0 l1 a2 0 0 (l0.length : Int) 0
theorem nat_off.mono_l : ∀ k, (∀ y0 y1 y2 y3 y4 y5 y6, LeO (nat_off.l0 k y0 y1 y2 y3 y4 y5 y6) (nat_off.l0 (k + 1) y0 y1 y2 y3 y4 y5 y6))
 | 0 => fun _ _ _ _ _ _ _ r h => by simp [nat_off.l0] at h
 | k + 1 => by
  have ih0 := nat_off.mono_l k
  ·
   intro y0 y1 y2 y3 y4 y5 y6
   unfold nat_off.l0
   repeat' first
   | (with_reducible exact ih0 _ _ _ _ _ _ _)
   | (with_reducible exact LeO.refl _)
   | (with_reducible refine LeO.ite ?_ ?_)
theorem nat_off.mono : ∀ a0 a1 a2 k, LeO (nat_off.f k a0 a1 a2) (nat_off.f (k + 1) a0 a1 a2) := by
 intro a0 a1 a2 k
 have ih0 := nat_off.mono_l k
 unfold nat_off.f
 repeat' first
   | (with_reducible exact ih0 _ _ _ _ _ _ _)
set_option maxHeartbeats 8000000 in
set_option maxRecDepth 100000 in
theorem nat_off.calls (k : Nat) (P0_ : Nat → Prop) (u9000_ : Value) (l0 : List Int) (A1 : Option Addr) (c1 : Nat) (l1 : List Int) (a2 : Int) (r1 : Bool) (r2 : List Int) (w0 w : World) (hB : Below w0.heap.size w0 w) (ho0 : Kd.R (Kd.int .u32) 78 w w0.heap.size P0_ u9000_ l0) (hr1 : ∀ W_, Kept w W_ (fun k_ => P0_ k_) → Kd.C (Kd.int .u32) W_ A1 l1.length l1) (hc1 : l1.length ≤ c1) (h : nat_off.f k l0 l1 a2 = some (r1, r2)) :
  Calls Try.prog 117 #[u9000_, .slice A1 l1.length c1, .int .u64 a2] w fun e w' => e = .returned (.bool r1) ∧ Kd.R (Kd.int .u32) 78 w' w0.heap.size (fun k_ => (P0_ k_ ∨ w.heap.size ≤ k_)) u9000_ r2 ∧ Below w0.heap.size w0 w' ∧ Kept w w' (fun k_ => P0_ k_) := by
 have HO0 := am (show Kd.R (Kd.int .u32) 78 w w0.heap.size (fun k_ => (P0_ k_ ∨ w.heap.size ≤ k_)) u9000_ l0 from Kd.R_mono ho0 (fun k_ hk => (.inl hk)))
 have HR1 := am hr1
 have HC1 := am hc1
 clear hr1 hc1
 have HK := am (Kept.refl w (fun k_ => P0_ k_))
 have HW0 := am hB.size
 have HB := am hB
 clear hB
 have H : (nat_off.l0 k l0 l1 a2 0 0 (l0.length : Int) 0) = some (r1, r2) := h
 clear h
 have H' := am H
 clear H
 obtain ⟨Ao4, co4, eo4⟩ := Kd.R_slice HO0.out
 subst eo4
 go_enter Try.func117, Try.ntmps117
 go_wp2
 go_loopg [7, 8, 13] k (fun kq v7 v8 v13 w' => ∃ (x0_1 : List Int) (x7_1 : Int) (x8_1 : Int) (x13_1 : Int), v7 = .int .u64 x7_1 ∧ v8 = .int .u64 x8_1 ∧ v13 = .int .i64 x13_1 ∧ Aside0 (nat_off.l0 kq x0_1 l1 a2 x7_1 x8_1 (l0.length : Int) x13_1 = some (r1, r2)) ∧ Aside0 (kq ≤ k) ∧ Aside0 (Kd.R (Kd.int .u32) 78 w' w0.heap.size (fun k_ => (P0_ k_ ∨ w.heap.size ≤ k_)) (.slice Ao4 l0.length co4) x0_1) ∧ Aside0 (Kept w w' (fun k_ => P0_ k_)) ∧ Aside0 (Below w0.heap.size w0 w'))
 case atStart => exact ⟨(l0), (0), (0), (0), (by rfl), (by rfl), (by rfl), H', ⟨Nat.le_refl _⟩, ⟨by exact HO0.out⟩, ⟨by with_reducible exact HK.out⟩, ⟨by with_reducible exact HB.out⟩⟩
 case round =>
  clear H'
  obtain ⟨x0_1, x7_1, x8_1, x13_1, rfl, rfl, rfl, HA, HK1, HO_0, HK, HB⟩ := hrel
  have hl0_1 := (Kd.R_reads' HO_0.out).1
  rw [hl0_1] at HO_0
  (try simp only [hl0_1])
  cases gk with
  | zero => exact absurd HA.out (by simp [nat_off.l0])
  | succ k1 =>
   have H := HA.out
   clear HA
   simp only [nat_off.l0] at H
   by_cases c5 : x13_1 < (l0.length : Int)
   ·
    rw [if_pos c5] at H
    have c5b0 : decide (x13_1 < (l0.length : Int)) = true := decide_eq_true c5
    (try (have c5h0hl0_1 := c5b0; rw [hl0_1] at c5h0hl0_1))
    clear c5
    by_cases c6 : x13_1 < (l1.length : Int)
    ·
     rw [if_pos c6] at H
     have c6b0 : decide (x13_1 < (l1.length : Int)) = true := decide_eq_true c6
     clear c6
     obtain ⟨c7, H⟩ := iteS H
     have c7b0 : decide (0 ≤ x13_1) = true := decide_eq_true c7
     clear c7
     obtain ⟨c8, H⟩ := iteS H
     have c8b0 : decide (x13_1 < (x0_1.length : Int)) = true := decide_eq_true c8
     clear c8
     obtain ⟨y217, hy217⟩ : ∃ y_ : List Int, y_ = (x0_1.set (x13_1 : Int).toNat ((IntKind.u64.wrap ((IntKind.u64.wrap ((IntKind.u64.wrap (rd x0_1 x13_1)) - ((IntKind.u64.wrap (x7_1 + (IntKind.u64.wrap (a2 * (IntKind.u64.wrap (rd l1 x13_1)))))) % 4294967296))) - x8_1)) % 4294967296)) := ⟨_, rfl⟩
     replace H : (nat_off.l0 k1 y217 l1 a2 ((IntKind.u64.wrap (x7_1 + (IntKind.u64.wrap (a2 * (IntKind.u64.wrap (rd l1 x13_1)))))) / 4294967296) ((IntKind.u64.wrap ((IntKind.u64.wrap ((IntKind.u64.wrap (rd x0_1 x13_1)) - ((IntKind.u64.wrap (x7_1 + (IntKind.u64.wrap (a2 * (IntKind.u64.wrap (rd l1 x13_1)))))) % 4294967296))) - x8_1)) / 9223372036854775808) (l0.length : Int) (wrap64 (x13_1 + 1))) = some (r1, r2) := by (rw [hy217]; with_reducible exact H)
     have Ny217 := am hy217
     clear hy217
     have H' := am H
     clear H
     have p215 : 0 ≤ (x13_1 : Int) := of_decide_eq_true (by (with_reducible assumption))
     have q215 : x13_1 < (l1.length : Int) := of_decide_eq_true (by (with_reducible assumption))
     obtain ⟨ad215, e215, hx215_0⟩ := Kd.at_int (Kd.C_kept_now HR1.out HK.out) x13_1 p215 q215
     cases e215
     replace p215 := eq_true p215
     replace q215 := eq_true q215
     have p216 : 0 ≤ (x13_1 : Int) := of_decide_eq_true (by (with_reducible assumption))
     have q216 : x13_1 < (x0_1.length : Int) := of_decide_eq_true (by (with_reducible assumption))
     obtain ⟨ad216, e216, hx216_0⟩ := Kd.at_int (Kd.R_reads' HO_0.out).2.2 x13_1 p216 q216
     cases e216
     replace p216 := eq_true p216
     replace q216 := eq_true q216
     have p9 : 0 ≤ (x13_1 : Int) := of_decide_eq_true (by (with_reducible assumption))
     have q9 : (x13_1 : Int) < ((x0_1.length : Int) : Int) := of_decide_eq_true (by (with_reducible assumption))
     obtain ⟨go9, co9, eo9, gb9, gl9, cl9, HG9⟩ := Kd.R_form HO_0.out (by omega)
     (cases eo9)
     have GB9 := am gb9
     have GG9 := am HG9
     clear gb9 gl9 HG9
     have HMgo9 := am (show (P0_ go9 ∨ w.heap.size ≤ go9) from (HO_0.out.1 _ rfl))
     (simp only [add_plain] at hx216_0)
     obtain ⟨hx9_0, hf9_0⟩ := Kd.R_celln 0 HO_0.out (x13_1 : Int) p9 q9
     replace p9 := eq_true p9
     replace q9 := eq_true q9
     have HP10 := Kd.R_putg HO_0.out (x13_1 : Int) ((IntKind.u64.wrap ((IntKind.u64.wrap ((IntKind.u64.wrap (rd x0_1 x13_1)) - ((IntKind.u64.wrap (x7_1 + (IntKind.u64.wrap (a2 * (IntKind.u64.wrap (rd l1 x13_1)))))) % 4294967296))) - x8_1)) % 4294967296)
     go_wp2_with (((with_reducible refine gate_store (t := 78) (p := 44) rfl ?_); refine store_event (t := 78) (p := 44) (v := ?vo_w11) (w1 := (wr.setCell ⟨go9, (x13_1 : Int).toNat, none⟩ (.int .u32 ((IntKind.u64.wrap ((IntKind.u64.wrap ((IntKind.u64.wrap (rd x0_1 x13_1)) - ((IntKind.u64.wrap (x7_1 + (IntKind.u64.wrap (a2 * (IntKind.u64.wrap (rd l1 x13_1)))))) % 4294967296))) - x8_1)) % 4294967296)))) ?hg ?ho ?hn ?hr ?_; (case ho => rfl); (case hg => rfl); (case hn => rfl); (case hr => (go_simp; done)); intro w11 hw; have hg : wr.grownBy w11 (some go9) := (by rw [hw]; exact HP10.2); have hp_ : Kd.R (Kd.int .u32) 78 w11 w0.heap.size (fun k_ => (P0_ k_ ∨ w.heap.size ≤ k_)) (.slice (some ⟨go9, 0, none⟩) x0_1.length co4) y217 := (by rw [hw, Ny217.out]; exact HP10.1); clear HP10; replace HB := am ((by rw [hw]; exact below_set (HB.out) GB9.out : Below w0.heap.size w0 w11)); replace HK := am (Kept.of_grown (S := (fun k_ => P0_ k_)) hg HK.out (fun k_ e_ => (HO_0.out.1 k_ e_))); replace HO_0 := am (hp_); clear hg hw hp_))
     (try simp only [← hl0_1])
     go_roundg k1
     case measure => have := HK1.out; omega
     case rel => exact ⟨(y217), ((IntKind.u64.wrap (x7_1 + (IntKind.u64.wrap (a2 * (IntKind.u64.wrap (rd l1 x13_1)))))) / 4294967296), ((IntKind.u64.wrap ((IntKind.u64.wrap ((IntKind.u64.wrap (rd x0_1 x13_1)) - ((IntKind.u64.wrap (x7_1 + (IntKind.u64.wrap (a2 * (IntKind.u64.wrap (rd l1 x13_1)))))) % 4294967296))) - x8_1)) / 9223372036854775808), (wrap64 (x13_1 + 1)), (by rfl), (by rfl), (by rfl), H', ⟨by have := HK1.out; omega⟩, ⟨by (try simp only [hl0_1]); exact HO_0.out⟩, ⟨by with_reducible exact HK.out⟩, ⟨by with_reducible exact HB.out⟩⟩
    ·
     rw [if_neg c6] at H
     have c6b0 : decide (x13_1 < (l1.length : Int)) = false := decide_eq_false c6
     clear c6
     obtain ⟨c12, H⟩ := iteS H
     have c12b0 : decide (0 ≤ x13_1) = true := decide_eq_true c12
     clear c12
     obtain ⟨c13, H⟩ := iteS H
     have c13b0 : decide (x13_1 < (x0_1.length : Int)) = true := decide_eq_true c13
     clear c13
     obtain ⟨y219, hy219⟩ : ∃ y_ : List Int, y_ = (x0_1.set (x13_1 : Int).toNat ((IntKind.u64.wrap ((IntKind.u64.wrap ((IntKind.u64.wrap (rd x0_1 x13_1)) - ((x7_1) % 4294967296))) - x8_1)) % 4294967296)) := ⟨_, rfl⟩
     replace H : (nat_off.l0 k1 y219 l1 a2 (x7_1 / 4294967296) ((IntKind.u64.wrap ((IntKind.u64.wrap ((IntKind.u64.wrap (rd x0_1 x13_1)) - ((x7_1) % 4294967296))) - x8_1)) / 9223372036854775808) (l0.length : Int) (wrap64 (x13_1 + 1))) = some (r1, r2) := by (rw [hy219]; with_reducible exact H)
     have Ny219 := am hy219
     clear hy219
     have H' := am H
     clear H
     have p218 : 0 ≤ (x13_1 : Int) := of_decide_eq_true (by (with_reducible assumption))
     have q218 : x13_1 < (x0_1.length : Int) := of_decide_eq_true (by (with_reducible assumption))
     obtain ⟨ad218, e218, hx218_0⟩ := Kd.at_int (Kd.R_reads' HO_0.out).2.2 x13_1 p218 q218
     cases e218
     replace p218 := eq_true p218
     replace q218 := eq_true q218
     have p14 : 0 ≤ (x13_1 : Int) := of_decide_eq_true (by (with_reducible assumption))
     have q14 : (x13_1 : Int) < ((x0_1.length : Int) : Int) := of_decide_eq_true (by (with_reducible assumption))
     obtain ⟨go14, co14, eo14, gb14, gl14, cl14, HG14⟩ := Kd.R_form HO_0.out (by omega)
     (cases eo14)
     have GB14 := am gb14
     have GG14 := am HG14
     clear gb14 gl14 HG14
     have HMgo14 := am (show (P0_ go14 ∨ w.heap.size ≤ go14) from (HO_0.out.1 _ rfl))
     (simp only [add_plain] at hx218_0)
     obtain ⟨hx14_0, hf14_0⟩ := Kd.R_celln 0 HO_0.out (x13_1 : Int) p14 q14
     replace p14 := eq_true p14
     replace q14 := eq_true q14
     have HP15 := Kd.R_putg HO_0.out (x13_1 : Int) ((IntKind.u64.wrap ((IntKind.u64.wrap ((IntKind.u64.wrap (rd x0_1 x13_1)) - ((x7_1) % 4294967296))) - x8_1)) % 4294967296)
     go_wp2_with (((with_reducible refine gate_store (t := 78) (p := 44) rfl ?_); refine store_event (t := 78) (p := 44) (v := ?vo_w16) (w1 := (wr.setCell ⟨go14, (x13_1 : Int).toNat, none⟩ (.int .u32 ((IntKind.u64.wrap ((IntKind.u64.wrap ((IntKind.u64.wrap (rd x0_1 x13_1)) - ((x7_1) % 4294967296))) - x8_1)) % 4294967296)))) ?hg ?ho ?hn ?hr ?_; (case ho => rfl); (case hg => rfl); (case hn => rfl); (case hr => (go_simp; done)); intro w16 hw; have hg : wr.grownBy w16 (some go14) := (by rw [hw]; exact HP15.2); have hp_ : Kd.R (Kd.int .u32) 78 w16 w0.heap.size (fun k_ => (P0_ k_ ∨ w.heap.size ≤ k_)) (.slice (some ⟨go14, 0, none⟩) x0_1.length co4) y219 := (by rw [hw, Ny219.out]; exact HP15.1); clear HP15; replace HB := am ((by rw [hw]; exact below_set (HB.out) GB14.out : Below w0.heap.size w0 w16)); replace HK := am (Kept.of_grown (S := (fun k_ => P0_ k_)) hg HK.out (fun k_ e_ => (HO_0.out.1 k_ e_))); replace HO_0 := am (hp_); clear hg hw hp_))
     (try simp only [← hl0_1])
     go_roundg k1
     case measure => have := HK1.out; omega
     case rel => exact ⟨(y219), (x7_1 / 4294967296), ((IntKind.u64.wrap ((IntKind.u64.wrap ((IntKind.u64.wrap (rd x0_1 x13_1)) - ((x7_1) % 4294967296))) - x8_1)) / 9223372036854775808), (wrap64 (x13_1 + 1)), (by rfl), (by rfl), (by rfl), H', ⟨by have := HK1.out; omega⟩, ⟨by (try simp only [hl0_1]); exact HO_0.out⟩, ⟨by with_reducible exact HK.out⟩, ⟨by with_reducible exact HB.out⟩⟩
   ·
    rw [if_neg c5] at H
    have c5b0 : decide (x13_1 < (l0.length : Int)) = false := decide_eq_false c5
    (try (have c5h0hl0_1 := c5b0; rw [hl0_1] at c5h0hl0_1))
    clear c5
    simp only [Option.some.injEq, Prod.mk.injEq] at H
    obtain ⟨rfl, rfl⟩ := H
    go_wp2
    go_ret
    exact ⟨by rfl, (by (simp only [hl0_1]; exact HO_0.out)), by with_reducible exact HB.out, by with_reducible exact HK.out⟩

/-! ### nat_back: function 118 -/
def nat_back.l0 : Nat → List Int → List Int → Int → Int → Int → Option (List Int)
 | 0, _, _, _, _, _ => none
 | k + 1, x0, x1, x4, x7, x8 => if x8 < x7 then (if 0 ≤ x8 then (if x8 < (x0.length : Int) then (if x8 < (x1.length : Int) then (nat_back.l0 k (x0.set (x8 : Int).toNat ((IntKind.u64.wrap ((IntKind.u64.wrap (x4 + (IntKind.u64.wrap (rd x0 x8)))) + (IntKind.u64.wrap (rd x1 x8)))) % 4294967296)) x1 ((IntKind.u64.wrap ((IntKind.u64.wrap (x4 + (IntKind.u64.wrap (rd x0 x8)))) + (IntKind.u64.wrap (rd x1 x8)))) / 4294967296) x7 (wrap64 (x8 + 1))) else (nat_back.l0 k (x0.set (x8 : Int).toNat ((IntKind.u64.wrap (x4 + (IntKind.u64.wrap (rd x0 x8)))) % 4294967296)) x1 ((IntKind.u64.wrap (x4 + (IntKind.u64.wrap (rd x0 x8)))) / 4294967296) x7 (wrap64 (x8 + 1)))) else (none)) else (none)) else (some x0)
def nat_back.f (k : Nat) (l0 : List Int) (l1 : List Int) : Option (List Int) := nat_back.l0 k l0 l1 0 (l0.length : Int) 0
theorem nat_back.mono_l : ∀ k, (∀ y0 y1 y2 y3 y4, LeO (nat_back.l0 k y0 y1 y2 y3 y4) (nat_back.l0 (k + 1) y0 y1 y2 y3 y4))
 | 0 => fun _ _ _ _ _ r h => by simp [nat_back.l0] at h
 | k + 1 => by
  have ih0 := nat_back.mono_l k
  ·
   intro y0 y1 y2 y3 y4
   unfold nat_back.l0
   repeat' first
   | (with_reducible exact ih0 _ _ _ _ _)
   | (with_reducible exact LeO.refl _)
   | (with_reducible refine LeO.ite ?_ ?_)
theorem nat_back.mono : ∀ a0 a1 k, LeO (nat_back.f k a0 a1) (nat_back.f (k + 1) a0 a1) := by
 intro a0 a1 k
 have ih0 := nat_back.mono_l k
 unfold nat_back.f
 repeat' first
   | (with_reducible exact ih0 _ _ _ _ _)
set_option maxHeartbeats 8000000 in
set_option maxRecDepth 100000 in
theorem nat_back.calls (k : Nat) (P0_ : Nat → Prop) (u9000_ : Value) (l0 : List Int) (A1 : Option Addr) (c1 : Nat) (l1 : List Int) (r : List Int) (w0 w : World) (hB : Below w0.heap.size w0 w) (ho0 : Kd.R (Kd.int .u32) 78 w w0.heap.size P0_ u9000_ l0) (hr1 : ∀ W_, Kept w W_ (fun k_ => P0_ k_) → Kd.C (Kd.int .u32) W_ A1 l1.length l1) (hc1 : l1.length ≤ c1) (h : nat_back.f k l0 l1 = some r) :
  Calls Try.prog 118 #[u9000_, .slice A1 l1.length c1] w fun e w' => e = .returned (.tuple #[]) ∧ Kd.R (Kd.int .u32) 78 w' w0.heap.size (fun k_ => (P0_ k_ ∨ w.heap.size ≤ k_)) u9000_ r ∧ Below w0.heap.size w0 w' ∧ Kept w w' (fun k_ => P0_ k_) := by
 have HO0 := am (show Kd.R (Kd.int .u32) 78 w w0.heap.size (fun k_ => (P0_ k_ ∨ w.heap.size ≤ k_)) u9000_ l0 from Kd.R_mono ho0 (fun k_ hk => (.inl hk)))
 have HR1 := am hr1
 have HC1 := am hc1
 clear hr1 hc1
 have HK := am (Kept.refl w (fun k_ => P0_ k_))
 have HW0 := am hB.size
 have HB := am hB
 clear hB
 have H : (nat_back.l0 k l0 l1 0 (l0.length : Int) 0) = some r := h
 clear h
 have H' := am H
 clear H
 obtain ⟨Ao3, co3, eo3⟩ := Kd.R_slice HO0.out
 subst eo3
 go_enter Try.func118, Try.ntmps118
 go_wp2
 go_loopg [4, 8] k (fun kq v4 v8 w' => ∃ (x0_1 : List Int) (x4_1 : Int) (x8_1 : Int), v4 = .int .u64 x4_1 ∧ v8 = .int .i64 x8_1 ∧ Aside0 (nat_back.l0 kq x0_1 l1 x4_1 (l0.length : Int) x8_1 = some r) ∧ Aside0 (kq ≤ k) ∧ Aside0 (Kd.R (Kd.int .u32) 78 w' w0.heap.size (fun k_ => (P0_ k_ ∨ w.heap.size ≤ k_)) (.slice Ao3 l0.length co3) x0_1) ∧ Aside0 (Kept w w' (fun k_ => P0_ k_)) ∧ Aside0 (Below w0.heap.size w0 w'))
 case atStart => exact ⟨(l0), (0), (0), (by rfl), (by rfl), H', ⟨Nat.le_refl _⟩, ⟨by exact HO0.out⟩, ⟨by with_reducible exact HK.out⟩, ⟨by with_reducible exact HB.out⟩⟩
 case round =>
  clear H'
  obtain ⟨x0_1, x4_1, x8_1, rfl, rfl, HA, HK1, HO_0, HK, HB⟩ := hrel
  have hl0_1 := (Kd.R_reads' HO_0.out).1
  rw [hl0_1] at HO_0
  (try simp only [hl0_1])
  cases gk with
  | zero => exact absurd HA.out (by simp [nat_back.l0])
  | succ k1 =>
   have H := HA.out
   clear HA
   simp only [nat_back.l0] at H
   by_cases c4 : x8_1 < (l0.length : Int)
   ·
    rw [if_pos c4] at H
    have c4b0 : decide (x8_1 < (l0.length : Int)) = true := decide_eq_true c4
    (try (have c4h0hl0_1 := c4b0; rw [hl0_1] at c4h0hl0_1))
    clear c4
    obtain ⟨c5, H⟩ := iteS H
    have c5b0 : decide (0 ≤ x8_1) = true := decide_eq_true c5
    clear c5
    obtain ⟨c6, H⟩ := iteS H
    have c6b0 : decide (x8_1 < (x0_1.length : Int)) = true := decide_eq_true c6
    clear c6
    by_cases c7 : x8_1 < (l1.length : Int)
    ·
     rw [if_pos c7] at H
     have c7b0 : decide (x8_1 < (l1.length : Int)) = true := decide_eq_true c7
     clear c7
     obtain ⟨y222, hy222⟩ : ∃ y_ : List Int, y_ = (x0_1.set (x8_1 : Int).toNat ((IntKind.u64.wrap ((IntKind.u64.wrap (x4_1 + (IntKind.u64.wrap (rd x0_1 x8_1)))) + (IntKind.u64.wrap (rd l1 x8_1)))) % 4294967296)) := ⟨_, rfl⟩
     replace H : (nat_back.l0 k1 y222 l1 ((IntKind.u64.wrap ((IntKind.u64.wrap (x4_1 + (IntKind.u64.wrap (rd x0_1 x8_1)))) + (IntKind.u64.wrap (rd l1 x8_1)))) / 4294967296) (l0.length : Int) (wrap64 (x8_1 + 1))) = some r := by (rw [hy222]; with_reducible exact H)
     have Ny222 := am hy222
     clear hy222
     have H' := am H
     clear H
     have p220 : 0 ≤ (x8_1 : Int) := of_decide_eq_true (by (with_reducible assumption))
     have q220 : x8_1 < (x0_1.length : Int) := of_decide_eq_true (by (with_reducible assumption))
     obtain ⟨ad220, e220, hx220_0⟩ := Kd.at_int (Kd.R_reads' HO_0.out).2.2 x8_1 p220 q220
     cases e220
     replace p220 := eq_true p220
     replace q220 := eq_true q220
     have p221 : 0 ≤ (x8_1 : Int) := of_decide_eq_true (by (with_reducible assumption))
     have q221 : x8_1 < (l1.length : Int) := of_decide_eq_true (by (with_reducible assumption))
     obtain ⟨ad221, e221, hx221_0⟩ := Kd.at_int (Kd.C_kept_now HR1.out HK.out) x8_1 p221 q221
     cases e221
     replace p221 := eq_true p221
     replace q221 := eq_true q221
     have p8 : 0 ≤ (x8_1 : Int) := of_decide_eq_true (by (with_reducible assumption))
     have q8 : (x8_1 : Int) < ((x0_1.length : Int) : Int) := of_decide_eq_true (by (with_reducible assumption))
     obtain ⟨go8, co8, eo8, gb8, gl8, cl8, HG8⟩ := Kd.R_form HO_0.out (by omega)
     (cases eo8)
     have GB8 := am gb8
     have GG8 := am HG8
     clear gb8 gl8 HG8
     have HMgo8 := am (show (P0_ go8 ∨ w.heap.size ≤ go8) from (HO_0.out.1 _ rfl))
     (simp only [add_plain] at hx220_0)
     obtain ⟨hx8_0, hf8_0⟩ := Kd.R_celln 0 HO_0.out (x8_1 : Int) p8 q8
     replace p8 := eq_true p8
     replace q8 := eq_true q8
     have HP9 := Kd.R_putg HO_0.out (x8_1 : Int) ((IntKind.u64.wrap ((IntKind.u64.wrap (x4_1 + (IntKind.u64.wrap (rd x0_1 x8_1)))) + (IntKind.u64.wrap (rd l1 x8_1)))) % 4294967296)
     go_wp2_with (((with_reducible refine gate_store (t := 78) (p := 33) rfl ?_); refine store_event (t := 78) (p := 33) (v := ?vo_w10) (w1 := (wr.setCell ⟨go8, (x8_1 : Int).toNat, none⟩ (.int .u32 ((IntKind.u64.wrap ((IntKind.u64.wrap (x4_1 + (IntKind.u64.wrap (rd x0_1 x8_1)))) + (IntKind.u64.wrap (rd l1 x8_1)))) % 4294967296)))) ?hg ?ho ?hn ?hr ?_; (case ho => rfl); (case hg => rfl); (case hn => rfl); (case hr => (go_simp; done)); intro w10 hw; have hg : wr.grownBy w10 (some go8) := (by rw [hw]; exact HP9.2); have hp_ : Kd.R (Kd.int .u32) 78 w10 w0.heap.size (fun k_ => (P0_ k_ ∨ w.heap.size ≤ k_)) (.slice (some ⟨go8, 0, none⟩) x0_1.length co3) y222 := (by rw [hw, Ny222.out]; exact HP9.1); clear HP9; replace HB := am ((by rw [hw]; exact below_set (HB.out) GB8.out : Below w0.heap.size w0 w10)); replace HK := am (Kept.of_grown (S := (fun k_ => P0_ k_)) hg HK.out (fun k_ e_ => (HO_0.out.1 k_ e_))); replace HO_0 := am (hp_); clear hg hw hp_))
     (try simp only [← hl0_1])
     go_roundg k1
     case measure => have := HK1.out; omega
     case rel => exact ⟨(y222), ((IntKind.u64.wrap ((IntKind.u64.wrap (x4_1 + (IntKind.u64.wrap (rd x0_1 x8_1)))) + (IntKind.u64.wrap (rd l1 x8_1)))) / 4294967296), (wrap64 (x8_1 + 1)), (by rfl), (by rfl), H', ⟨by have := HK1.out; omega⟩, ⟨by (try simp only [hl0_1]); exact HO_0.out⟩, ⟨by with_reducible exact HK.out⟩, ⟨by with_reducible exact HB.out⟩⟩
    ·
     rw [if_neg c7] at H
     have c7b0 : decide (x8_1 < (l1.length : Int)) = false := decide_eq_false c7
     clear c7
     obtain ⟨y223, hy223⟩ : ∃ y_ : List Int, y_ = (x0_1.set (x8_1 : Int).toNat ((IntKind.u64.wrap (x4_1 + (IntKind.u64.wrap (rd x0_1 x8_1)))) % 4294967296)) := ⟨_, rfl⟩
     replace H : (nat_back.l0 k1 y223 l1 ((IntKind.u64.wrap (x4_1 + (IntKind.u64.wrap (rd x0_1 x8_1)))) / 4294967296) (l0.length : Int) (wrap64 (x8_1 + 1))) = some r := by (rw [hy223]; with_reducible exact H)
     have Ny223 := am hy223
     clear hy223
     have H' := am H
     clear H
     have p220 : 0 ≤ (x8_1 : Int) := of_decide_eq_true (by (with_reducible assumption))
     have q220 : x8_1 < (x0_1.length : Int) := of_decide_eq_true (by (with_reducible assumption))
     obtain ⟨ad220, e220, hx220_0⟩ := Kd.at_int (Kd.R_reads' HO_0.out).2.2 x8_1 p220 q220
     cases e220
     replace p220 := eq_true p220
     replace q220 := eq_true q220
     have p11 : 0 ≤ (x8_1 : Int) := of_decide_eq_true (by (with_reducible assumption))
     have q11 : (x8_1 : Int) < ((x0_1.length : Int) : Int) := of_decide_eq_true (by (with_reducible assumption))
     obtain ⟨go11, co11, eo11, gb11, gl11, cl11, HG11⟩ := Kd.R_form HO_0.out (by omega)
     (cases eo11)
     have GB11 := am gb11
     have GG11 := am HG11
     clear gb11 gl11 HG11
     have HMgo11 := am (show (P0_ go11 ∨ w.heap.size ≤ go11) from (HO_0.out.1 _ rfl))
     (simp only [add_plain] at hx220_0)
     obtain ⟨hx11_0, hf11_0⟩ := Kd.R_celln 0 HO_0.out (x8_1 : Int) p11 q11
     replace p11 := eq_true p11
     replace q11 := eq_true q11
     have HP12 := Kd.R_putg HO_0.out (x8_1 : Int) ((IntKind.u64.wrap (x4_1 + (IntKind.u64.wrap (rd x0_1 x8_1)))) % 4294967296)
     go_wp2_with (((with_reducible refine gate_store (t := 78) (p := 33) rfl ?_); refine store_event (t := 78) (p := 33) (v := ?vo_w13) (w1 := (wr.setCell ⟨go11, (x8_1 : Int).toNat, none⟩ (.int .u32 ((IntKind.u64.wrap (x4_1 + (IntKind.u64.wrap (rd x0_1 x8_1)))) % 4294967296)))) ?hg ?ho ?hn ?hr ?_; (case ho => rfl); (case hg => rfl); (case hn => rfl); (case hr => (go_simp; done)); intro w13 hw; have hg : wr.grownBy w13 (some go11) := (by rw [hw]; exact HP12.2); have hp_ : Kd.R (Kd.int .u32) 78 w13 w0.heap.size (fun k_ => (P0_ k_ ∨ w.heap.size ≤ k_)) (.slice (some ⟨go11, 0, none⟩) x0_1.length co3) y223 := (by rw [hw, Ny223.out]; exact HP12.1); clear HP12; replace HB := am ((by rw [hw]; exact below_set (HB.out) GB11.out : Below w0.heap.size w0 w13)); replace HK := am (Kept.of_grown (S := (fun k_ => P0_ k_)) hg HK.out (fun k_ e_ => (HO_0.out.1 k_ e_))); replace HO_0 := am (hp_); clear hg hw hp_))
     (try simp only [← hl0_1])
     go_roundg k1
     case measure => have := HK1.out; omega
     case rel => exact ⟨(y223), ((IntKind.u64.wrap (x4_1 + (IntKind.u64.wrap (rd x0_1 x8_1)))) / 4294967296), (wrap64 (x8_1 + 1)), (by rfl), (by rfl), H', ⟨by have := HK1.out; omega⟩, ⟨by (try simp only [hl0_1]); exact HO_0.out⟩, ⟨by with_reducible exact HK.out⟩, ⟨by with_reducible exact HB.out⟩⟩
   ·
    rw [if_neg c4] at H
    have c4b0 : decide (x8_1 < (l0.length : Int)) = false := decide_eq_false c4
    (try (have c4h0hl0_1 := c4b0; rw [hl0_1] at c4h0hl0_1))
    clear c4
    obtain rfl := Option.some.inj H
    go_wp2
    go_end0
    exact ⟨by rfl, (by exact HO_0.out), by with_reducible exact HB.out, by with_reducible exact HK.out⟩

/-! ### nat_offX: nat_off, of a piece of a row -/
set_option maxHeartbeats 8000000 in
set_option maxRecDepth 100000 in
theorem nat_off.callsW (k : Nat) (g_ : Nat) (L_ R_ : List Value) (u9000_ : Value) (l0 : List Int) (A1 : Option Addr) (c1 : Nat) (l1 : List Int) (a2 : Int) (r1 : Bool) (r2 : List Int) (w0 w : World) (hB : Below w0.heap.size w0 w) (ho0 : RW L_ R_ .u32 78 w w0.heap.size g_ u9000_ l0) (hr1 : ∀ W_, Kept w W_ (fun k_ => k_ = g_) → Kd.C (Kd.int .u32) W_ A1 l1.length l1) (hc1 : l1.length ≤ c1) (h : nat_off.f k l0 l1 a2 = some (r1, r2)) :
  Calls Try.prog 117 #[u9000_, .slice A1 l1.length c1, .int .u64 a2] w fun e w' => e = .returned (.bool r1) ∧ RW L_ R_ .u32 78 w' w0.heap.size g_ u9000_ r2 ∧ Below w0.heap.size w0 w' ∧ Kept w w' (fun k_ => k_ = g_) := by
 have HO0 := am ho0
 have HR1 := am hr1
 have HC1 := am hc1
 clear hr1 hc1
 have HK := am (Kept.refl w (fun k_ => k_ = g_))
 have HW0 := am hB.size
 have HB := am hB
 clear hB
 have H : (nat_off.l0 k l0 l1 a2 0 0 (l0.length : Int) 0) = some (r1, r2) := h
 clear h
 have H' := am H
 clear H
 obtain ⟨Ao4, co4, eo4⟩ := RW_slice HO0.out
 subst eo4
 go_enter Try.func117, Try.ntmps117
 go_wp2
 go_loopg [7, 8, 13] k (fun kq v7 v8 v13 w' => ∃ (x0_1 : List Int) (x7_1 : Int) (x8_1 : Int) (x13_1 : Int), v7 = .int .u64 x7_1 ∧ v8 = .int .u64 x8_1 ∧ v13 = .int .i64 x13_1 ∧ Aside0 (nat_off.l0 kq x0_1 l1 a2 x7_1 x8_1 (l0.length : Int) x13_1 = some (r1, r2)) ∧ Aside0 (kq ≤ k) ∧ Aside0 (RW L_ R_ .u32 78 w' w0.heap.size g_ (.slice Ao4 l0.length co4) x0_1) ∧ Aside0 (Kept w w' (fun k_ => k_ = g_)) ∧ Aside0 (Below w0.heap.size w0 w'))
 case atStart => exact ⟨(l0), (0), (0), (0), (by rfl), (by rfl), (by rfl), H', ⟨Nat.le_refl _⟩, ⟨by exact HO0.out⟩, ⟨by with_reducible exact HK.out⟩, ⟨by with_reducible exact HB.out⟩⟩
 case round =>
  clear H'
  obtain ⟨x0_1, x7_1, x8_1, x13_1, rfl, rfl, rfl, HA, HK1, HO_0, HK, HB⟩ := hrel
  have hl0_1 := (RW_reads' HO_0.out).1
  rw [hl0_1] at HO_0
  (try simp only [hl0_1])
  cases gk with
  | zero => exact absurd HA.out (by simp [nat_off.l0])
  | succ k1 =>
   have H := HA.out
   clear HA
   simp only [nat_off.l0] at H
   by_cases c5 : x13_1 < (l0.length : Int)
   ·
    rw [if_pos c5] at H
    have c5b0 : decide (x13_1 < (l0.length : Int)) = true := decide_eq_true c5
    (try (have c5h0hl0_1 := c5b0; rw [hl0_1] at c5h0hl0_1))
    clear c5
    by_cases c6 : x13_1 < (l1.length : Int)
    ·
     rw [if_pos c6] at H
     have c6b0 : decide (x13_1 < (l1.length : Int)) = true := decide_eq_true c6
     clear c6
     obtain ⟨c7, H⟩ := iteS H
     have c7b0 : decide (0 ≤ x13_1) = true := decide_eq_true c7
     clear c7
     obtain ⟨c8, H⟩ := iteS H
     have c8b0 : decide (x13_1 < (x0_1.length : Int)) = true := decide_eq_true c8
     clear c8
     obtain ⟨y217, hy217⟩ : ∃ y_ : List Int, y_ = (x0_1.set (x13_1 : Int).toNat ((IntKind.u64.wrap ((IntKind.u64.wrap ((IntKind.u64.wrap (rd x0_1 x13_1)) - ((IntKind.u64.wrap (x7_1 + (IntKind.u64.wrap (a2 * (IntKind.u64.wrap (rd l1 x13_1)))))) % 4294967296))) - x8_1)) % 4294967296)) := ⟨_, rfl⟩
     replace H : (nat_off.l0 k1 y217 l1 a2 ((IntKind.u64.wrap (x7_1 + (IntKind.u64.wrap (a2 * (IntKind.u64.wrap (rd l1 x13_1)))))) / 4294967296) ((IntKind.u64.wrap ((IntKind.u64.wrap ((IntKind.u64.wrap (rd x0_1 x13_1)) - ((IntKind.u64.wrap (x7_1 + (IntKind.u64.wrap (a2 * (IntKind.u64.wrap (rd l1 x13_1)))))) % 4294967296))) - x8_1)) / 9223372036854775808) (l0.length : Int) (wrap64 (x13_1 + 1))) = some (r1, r2) := by (rw [hy217]; with_reducible exact H)
     have Ny217 := am hy217
     clear hy217
     have H' := am H
     clear H
     have p215 : 0 ≤ (x13_1 : Int) := of_decide_eq_true (by (with_reducible assumption))
     have q215 : x13_1 < (l1.length : Int) := of_decide_eq_true (by (with_reducible assumption))
     obtain ⟨ad215, e215, hx215_0⟩ := Kd.at_int (Kd.C_kept_now HR1.out HK.out) x13_1 p215 q215
     cases e215
     replace p215 := eq_true p215
     replace q215 := eq_true q215
     have p216 : 0 ≤ (x13_1 : Int) := of_decide_eq_true (by (with_reducible assumption))
     have q216 : x13_1 < (x0_1.length : Int) := of_decide_eq_true (by (with_reducible assumption))
     obtain ⟨ad216, e216, hx216_0⟩ := Kd.at_int (RW_reads' HO_0.out).2.2 x13_1 p216 q216
     cases e216
     replace p216 := eq_true p216
     replace q216 := eq_true q216
     have p9 : 0 ≤ (x13_1 : Int) := of_decide_eq_true (by (with_reducible assumption))
     have q9 : (x13_1 : Int) < ((x0_1.length : Int) : Int) := of_decide_eq_true (by (with_reducible assumption))
     obtain ⟨go9, co9, eo9, gb9, gl9, cl9, HG9⟩ := RW_form HO_0.out (by omega)
     (cases eo9)
     have GB9 := am gb9
     have GG9 := am HG9
     clear gb9 gl9 HG9
     have HMgo9 := am (show go9 = g_ from RW_blk (A := none) HO_0.out)
     (simp only [add_at] at hx216_0)
     obtain ⟨hx9_0, hf9_0⟩ := RW_celln HO_0.out (x13_1 : Int) p9 q9
     replace p9 := eq_true p9
     replace q9 := eq_true q9
     have HP10 := RW_putg HO_0.out (x13_1 : Int) (of_decide_eq_true (by (with_reducible assumption))) (of_decide_eq_true (by (with_reducible assumption))) ((IntKind.u64.wrap ((IntKind.u64.wrap ((IntKind.u64.wrap (rd x0_1 x13_1)) - ((IntKind.u64.wrap (x7_1 + (IntKind.u64.wrap (a2 * (IntKind.u64.wrap (rd l1 x13_1)))))) % 4294967296))) - x8_1)) % 4294967296)
     go_wp2_with (((with_reducible refine gate_store (t := 78) (p := 44) rfl ?_); refine store_event (t := 78) (p := 44) (v := ?vo_w11) (w1 := (wr.setCell ⟨go9, L_.length + (x13_1 : Int).toNat, none⟩ (.int .u32 ((IntKind.u64.wrap ((IntKind.u64.wrap ((IntKind.u64.wrap (rd x0_1 x13_1)) - ((IntKind.u64.wrap (x7_1 + (IntKind.u64.wrap (a2 * (IntKind.u64.wrap (rd l1 x13_1)))))) % 4294967296))) - x8_1)) % 4294967296)))) ?hg ?ho ?hn ?hr ?_; (case ho => rfl); (case hg => rfl); (case hn => rfl); (case hr => (go_simp; done)); intro w11 hw; have hg : wr.grownBy w11 (some go9) := (by rw [hw]; exact HP10.2); have hp_ : RW L_ R_ .u32 78 w11 w0.heap.size g_ (.slice (some ⟨go9, L_.length, none⟩) x0_1.length co4) y217 := (by rw [hw, Ny217.out]; exact HP10.1); clear HP10; replace HB := am ((by rw [hw]; exact below_set (HB.out) GB9.out : Below w0.heap.size w0 w11)); replace HK := am (Kept.of_grown (S := (fun k_ => k_ = g_)) hg HK.out (fun k_ e_ => .inl (by cases e_; exact RW_blk (A := none) HO_0.out))); replace HO_0 := am (hp_); clear hg hw hp_))
     (try simp only [← hl0_1])
     go_roundg k1
     case measure => have := HK1.out; omega
     case rel => exact ⟨(y217), ((IntKind.u64.wrap (x7_1 + (IntKind.u64.wrap (a2 * (IntKind.u64.wrap (rd l1 x13_1)))))) / 4294967296), ((IntKind.u64.wrap ((IntKind.u64.wrap ((IntKind.u64.wrap (rd x0_1 x13_1)) - ((IntKind.u64.wrap (x7_1 + (IntKind.u64.wrap (a2 * (IntKind.u64.wrap (rd l1 x13_1)))))) % 4294967296))) - x8_1)) / 9223372036854775808), (wrap64 (x13_1 + 1)), (by rfl), (by rfl), (by rfl), H', ⟨by have := HK1.out; omega⟩, ⟨by (try simp only [hl0_1]); exact HO_0.out⟩, ⟨by with_reducible exact HK.out⟩, ⟨by with_reducible exact HB.out⟩⟩
    ·
     rw [if_neg c6] at H
     have c6b0 : decide (x13_1 < (l1.length : Int)) = false := decide_eq_false c6
     clear c6
     obtain ⟨c12, H⟩ := iteS H
     have c12b0 : decide (0 ≤ x13_1) = true := decide_eq_true c12
     clear c12
     obtain ⟨c13, H⟩ := iteS H
     have c13b0 : decide (x13_1 < (x0_1.length : Int)) = true := decide_eq_true c13
     clear c13
     obtain ⟨y219, hy219⟩ : ∃ y_ : List Int, y_ = (x0_1.set (x13_1 : Int).toNat ((IntKind.u64.wrap ((IntKind.u64.wrap ((IntKind.u64.wrap (rd x0_1 x13_1)) - ((x7_1) % 4294967296))) - x8_1)) % 4294967296)) := ⟨_, rfl⟩
     replace H : (nat_off.l0 k1 y219 l1 a2 (x7_1 / 4294967296) ((IntKind.u64.wrap ((IntKind.u64.wrap ((IntKind.u64.wrap (rd x0_1 x13_1)) - ((x7_1) % 4294967296))) - x8_1)) / 9223372036854775808) (l0.length : Int) (wrap64 (x13_1 + 1))) = some (r1, r2) := by (rw [hy219]; with_reducible exact H)
     have Ny219 := am hy219
     clear hy219
     have H' := am H
     clear H
     have p218 : 0 ≤ (x13_1 : Int) := of_decide_eq_true (by (with_reducible assumption))
     have q218 : x13_1 < (x0_1.length : Int) := of_decide_eq_true (by (with_reducible assumption))
     obtain ⟨ad218, e218, hx218_0⟩ := Kd.at_int (RW_reads' HO_0.out).2.2 x13_1 p218 q218
     cases e218
     replace p218 := eq_true p218
     replace q218 := eq_true q218
     have p14 : 0 ≤ (x13_1 : Int) := of_decide_eq_true (by (with_reducible assumption))
     have q14 : (x13_1 : Int) < ((x0_1.length : Int) : Int) := of_decide_eq_true (by (with_reducible assumption))
     obtain ⟨go14, co14, eo14, gb14, gl14, cl14, HG14⟩ := RW_form HO_0.out (by omega)
     (cases eo14)
     have GB14 := am gb14
     have GG14 := am HG14
     clear gb14 gl14 HG14
     have HMgo14 := am (show go14 = g_ from RW_blk (A := none) HO_0.out)
     (simp only [add_at] at hx218_0)
     obtain ⟨hx14_0, hf14_0⟩ := RW_celln HO_0.out (x13_1 : Int) p14 q14
     replace p14 := eq_true p14
     replace q14 := eq_true q14
     have HP15 := RW_putg HO_0.out (x13_1 : Int) (of_decide_eq_true (by (with_reducible assumption))) (of_decide_eq_true (by (with_reducible assumption))) ((IntKind.u64.wrap ((IntKind.u64.wrap ((IntKind.u64.wrap (rd x0_1 x13_1)) - ((x7_1) % 4294967296))) - x8_1)) % 4294967296)
     go_wp2_with (((with_reducible refine gate_store (t := 78) (p := 44) rfl ?_); refine store_event (t := 78) (p := 44) (v := ?vo_w16) (w1 := (wr.setCell ⟨go14, L_.length + (x13_1 : Int).toNat, none⟩ (.int .u32 ((IntKind.u64.wrap ((IntKind.u64.wrap ((IntKind.u64.wrap (rd x0_1 x13_1)) - ((x7_1) % 4294967296))) - x8_1)) % 4294967296)))) ?hg ?ho ?hn ?hr ?_; (case ho => rfl); (case hg => rfl); (case hn => rfl); (case hr => (go_simp; done)); intro w16 hw; have hg : wr.grownBy w16 (some go14) := (by rw [hw]; exact HP15.2); have hp_ : RW L_ R_ .u32 78 w16 w0.heap.size g_ (.slice (some ⟨go14, L_.length, none⟩) x0_1.length co4) y219 := (by rw [hw, Ny219.out]; exact HP15.1); clear HP15; replace HB := am ((by rw [hw]; exact below_set (HB.out) GB14.out : Below w0.heap.size w0 w16)); replace HK := am (Kept.of_grown (S := (fun k_ => k_ = g_)) hg HK.out (fun k_ e_ => .inl (by cases e_; exact RW_blk (A := none) HO_0.out))); replace HO_0 := am (hp_); clear hg hw hp_))
     (try simp only [← hl0_1])
     go_roundg k1
     case measure => have := HK1.out; omega
     case rel => exact ⟨(y219), (x7_1 / 4294967296), ((IntKind.u64.wrap ((IntKind.u64.wrap ((IntKind.u64.wrap (rd x0_1 x13_1)) - ((x7_1) % 4294967296))) - x8_1)) / 9223372036854775808), (wrap64 (x13_1 + 1)), (by rfl), (by rfl), (by rfl), H', ⟨by have := HK1.out; omega⟩, ⟨by (try simp only [hl0_1]); exact HO_0.out⟩, ⟨by with_reducible exact HK.out⟩, ⟨by with_reducible exact HB.out⟩⟩
   ·
    rw [if_neg c5] at H
    have c5b0 : decide (x13_1 < (l0.length : Int)) = false := decide_eq_false c5
    (try (have c5h0hl0_1 := c5b0; rw [hl0_1] at c5h0hl0_1))
    clear c5
    simp only [Option.some.injEq, Prod.mk.injEq] at H
    obtain ⟨rfl, rfl⟩ := H
    go_wp2
    go_ret
    exact ⟨by rfl, (by (simp only [hl0_1]; exact HO_0.out)), by with_reducible exact HB.out, by with_reducible exact HK.out⟩

def nat_offX.f (k : Nat) (l0 : List Int) (lo_ hi_ : Int) (l1 : List Int) (a2 : Int) : Option (Bool × List Int) := if 0 ≤ lo_ ∧ lo_ < hi_ ∧ hi_ ≤ (l0.length : Int) then (nat_off.f k ((l0.take hi_.toNat).drop lo_.toNat) l1 a2).bind fun b_ => (if (b_.2).length = hi_.toNat - lo_.toNat then some (b_.1, l0.take lo_.toNat ++ b_.2 ++ l0.drop hi_.toNat) else none) else none
theorem nat_offX.mono : ∀ a0 a1 a2 a3 a4 k, LeO (nat_offX.f k a0 a1 a2 a3 a4) (nat_offX.f (k + 1) a0 a1 a2 a3 a4) := by
 intro a0 a1 a2 a3 a4 k
 unfold nat_offX.f
 exact LeO.ite (LeO.bind (nat_off.mono _ _ _ k) (fun _ => LeO.refl _)) (LeO.refl _)
set_option maxHeartbeats 8000000 in
theorem nat_offX.calls (k : Nat) (P0_ : Nat → Prop) (u9000_ : Value) (l0 : List Int) (lo_ hi_ : Int) (A1 : Option Addr) (c1 : Nat) (l1 : List Int) (a2 : Int) (r1 : Bool) (r2 : List Int) (w0 w : World) (hB : Below w0.heap.size w0 w) (ho0 : Kd.R (Kd.int .u32) 78 w w0.heap.size P0_ u9000_ l0) {A_ : Option Addr} {m_ c_ : Nat} {AW_ : Option Addr} {nW_ cW_ : Nat} (hAW_ : AW_ = (if c_ = lo_.toNat then A_ else A_.map (·.add (lo_.toNat * 1)))) (hnW_ : nW_ = hi_.toNat - lo_.toNat) (hcW_ : nW_ ≤ cW_) (hr1 : ∀ W_, Kept w W_ (fun k_ => P0_ k_) → Kd.C (Kd.int .u32) W_ A1 l1.length l1) (hc1 : l1.length ≤ c1) (hu_ : u9000_ = .slice A_ m_ c_) (h : nat_offX.f k l0 lo_ hi_ l1 a2 = some (r1, r2)) :
  Calls Try.prog 117 #[.slice AW_ nW_ cW_, .slice A1 l1.length c1, .int .u64 a2] w fun e w' => e = .returned (.bool r1) ∧ Kd.R (Kd.int .u32) 78 w' w0.heap.size (fun k_ => (P0_ k_ ∨ w.heap.size ≤ k_)) u9000_ r2 ∧ Below w0.heap.size w0 w' ∧ Kept w w' (fun k_ => P0_ k_) := by
 subst hu_
 unfold nat_offX.f at h
 by_cases hb_ : 0 ≤ lo_ ∧ lo_ < hi_ ∧ hi_ ≤ (l0.length : Int)
 ·
  rw [if_pos hb_] at h
  obtain ⟨b_, hf_, h⟩ := Option.bind_eq_some_iff.mp h
  obtain ⟨b0_, b1_⟩ := b_
  by_cases hl_ : b1_.length = hi_.toNat - lo_.toNat
  ·
   simp only [if_pos hl_, Option.some.injEq, Prod.mk.injEq] at h
   obtain ⟨rfl, rfl⟩ := h
   obtain ⟨g_, R_, hRW_, hback_⟩ := RW_of_R ho0 lo_ hi_ hb_.1 hb_.2.1 hb_.2.2 hAW_ hnW_ hcW_
   refine (nat_off.callsW k g_ (nums .u32 (l0.take lo_.toNat)) R_ _ _ A1 c1 l1 a2 _ _ w0 w hB hRW_ (fun W_ hk_ => hr1 W_ (hk_.mono (fun k_ he_ => by rw [he_]; exact hback_.1))) hc1 hf_).mono ?_
   rintro e w' ⟨he_, hw_, hB_, hK_⟩
   exact ⟨he_, hback_.2 _ _ hw_ hl_ (fun k_ hk_ => .inl hk_), hB_, hK_.mono (fun k_ hk_ => by rw [hk_]; exact hback_.1)⟩
  ·
   simp [if_neg hl_] at h
 ·
  rw [if_neg hb_] at h
  exact absurd h (by simp)

/-! ### nat_backX: nat_back, of a piece of a row -/
set_option maxHeartbeats 8000000 in
set_option maxRecDepth 100000 in
theorem nat_back.callsW (k : Nat) (g_ : Nat) (L_ R_ : List Value) (u9000_ : Value) (l0 : List Int) (A1 : Option Addr) (c1 : Nat) (l1 : List Int) (r : List Int) (w0 w : World) (hB : Below w0.heap.size w0 w) (ho0 : RW L_ R_ .u32 78 w w0.heap.size g_ u9000_ l0) (hr1 : ∀ W_, Kept w W_ (fun k_ => k_ = g_) → Kd.C (Kd.int .u32) W_ A1 l1.length l1) (hc1 : l1.length ≤ c1) (h : nat_back.f k l0 l1 = some r) :
  Calls Try.prog 118 #[u9000_, .slice A1 l1.length c1] w fun e w' => e = .returned (.tuple #[]) ∧ RW L_ R_ .u32 78 w' w0.heap.size g_ u9000_ r ∧ Below w0.heap.size w0 w' ∧ Kept w w' (fun k_ => k_ = g_) := by
 have HO0 := am ho0
 have HR1 := am hr1
 have HC1 := am hc1
 clear hr1 hc1
 have HK := am (Kept.refl w (fun k_ => k_ = g_))
 have HW0 := am hB.size
 have HB := am hB
 clear hB
 have H : (nat_back.l0 k l0 l1 0 (l0.length : Int) 0) = some r := h
 clear h
 have H' := am H
 clear H
 obtain ⟨Ao3, co3, eo3⟩ := RW_slice HO0.out
 subst eo3
 go_enter Try.func118, Try.ntmps118
 go_wp2
 go_loopg [4, 8] k (fun kq v4 v8 w' => ∃ (x0_1 : List Int) (x4_1 : Int) (x8_1 : Int), v4 = .int .u64 x4_1 ∧ v8 = .int .i64 x8_1 ∧ Aside0 (nat_back.l0 kq x0_1 l1 x4_1 (l0.length : Int) x8_1 = some r) ∧ Aside0 (kq ≤ k) ∧ Aside0 (RW L_ R_ .u32 78 w' w0.heap.size g_ (.slice Ao3 l0.length co3) x0_1) ∧ Aside0 (Kept w w' (fun k_ => k_ = g_)) ∧ Aside0 (Below w0.heap.size w0 w'))
 case atStart => exact ⟨(l0), (0), (0), (by rfl), (by rfl), H', ⟨Nat.le_refl _⟩, ⟨by exact HO0.out⟩, ⟨by with_reducible exact HK.out⟩, ⟨by with_reducible exact HB.out⟩⟩
 case round =>
  clear H'
  obtain ⟨x0_1, x4_1, x8_1, rfl, rfl, HA, HK1, HO_0, HK, HB⟩ := hrel
  have hl0_1 := (RW_reads' HO_0.out).1
  rw [hl0_1] at HO_0
  (try simp only [hl0_1])
  cases gk with
  | zero => exact absurd HA.out (by simp [nat_back.l0])
  | succ k1 =>
   have H := HA.out
   clear HA
   simp only [nat_back.l0] at H
   by_cases c4 : x8_1 < (l0.length : Int)
   ·
    rw [if_pos c4] at H
    have c4b0 : decide (x8_1 < (l0.length : Int)) = true := decide_eq_true c4
    (try (have c4h0hl0_1 := c4b0; rw [hl0_1] at c4h0hl0_1))
    clear c4
    obtain ⟨c5, H⟩ := iteS H
    have c5b0 : decide (0 ≤ x8_1) = true := decide_eq_true c5
    clear c5
    obtain ⟨c6, H⟩ := iteS H
    have c6b0 : decide (x8_1 < (x0_1.length : Int)) = true := decide_eq_true c6
    clear c6
    by_cases c7 : x8_1 < (l1.length : Int)
    ·
     rw [if_pos c7] at H
     have c7b0 : decide (x8_1 < (l1.length : Int)) = true := decide_eq_true c7
     clear c7
     obtain ⟨y222, hy222⟩ : ∃ y_ : List Int, y_ = (x0_1.set (x8_1 : Int).toNat ((IntKind.u64.wrap ((IntKind.u64.wrap (x4_1 + (IntKind.u64.wrap (rd x0_1 x8_1)))) + (IntKind.u64.wrap (rd l1 x8_1)))) % 4294967296)) := ⟨_, rfl⟩
     replace H : (nat_back.l0 k1 y222 l1 ((IntKind.u64.wrap ((IntKind.u64.wrap (x4_1 + (IntKind.u64.wrap (rd x0_1 x8_1)))) + (IntKind.u64.wrap (rd l1 x8_1)))) / 4294967296) (l0.length : Int) (wrap64 (x8_1 + 1))) = some r := by (rw [hy222]; with_reducible exact H)
     have Ny222 := am hy222
     clear hy222
     have H' := am H
     clear H
     have p220 : 0 ≤ (x8_1 : Int) := of_decide_eq_true (by (with_reducible assumption))
     have q220 : x8_1 < (x0_1.length : Int) := of_decide_eq_true (by (with_reducible assumption))
     obtain ⟨ad220, e220, hx220_0⟩ := Kd.at_int (RW_reads' HO_0.out).2.2 x8_1 p220 q220
     cases e220
     replace p220 := eq_true p220
     replace q220 := eq_true q220
     have p221 : 0 ≤ (x8_1 : Int) := of_decide_eq_true (by (with_reducible assumption))
     have q221 : x8_1 < (l1.length : Int) := of_decide_eq_true (by (with_reducible assumption))
     obtain ⟨ad221, e221, hx221_0⟩ := Kd.at_int (Kd.C_kept_now HR1.out HK.out) x8_1 p221 q221
     cases e221
     replace p221 := eq_true p221
     replace q221 := eq_true q221
     have p8 : 0 ≤ (x8_1 : Int) := of_decide_eq_true (by (with_reducible assumption))
     have q8 : (x8_1 : Int) < ((x0_1.length : Int) : Int) := of_decide_eq_true (by (with_reducible assumption))
     obtain ⟨go8, co8, eo8, gb8, gl8, cl8, HG8⟩ := RW_form HO_0.out (by omega)
     (cases eo8)
     have GB8 := am gb8
     have GG8 := am HG8
     clear gb8 gl8 HG8
     have HMgo8 := am (show go8 = g_ from RW_blk (A := none) HO_0.out)
     (simp only [add_at] at hx220_0)
     obtain ⟨hx8_0, hf8_0⟩ := RW_celln HO_0.out (x8_1 : Int) p8 q8
     replace p8 := eq_true p8
     replace q8 := eq_true q8
     have HP9 := RW_putg HO_0.out (x8_1 : Int) (of_decide_eq_true (by (with_reducible assumption))) (of_decide_eq_true (by (with_reducible assumption))) ((IntKind.u64.wrap ((IntKind.u64.wrap (x4_1 + (IntKind.u64.wrap (rd x0_1 x8_1)))) + (IntKind.u64.wrap (rd l1 x8_1)))) % 4294967296)
     go_wp2_with (((with_reducible refine gate_store (t := 78) (p := 33) rfl ?_); refine store_event (t := 78) (p := 33) (v := ?vo_w10) (w1 := (wr.setCell ⟨go8, L_.length + (x8_1 : Int).toNat, none⟩ (.int .u32 ((IntKind.u64.wrap ((IntKind.u64.wrap (x4_1 + (IntKind.u64.wrap (rd x0_1 x8_1)))) + (IntKind.u64.wrap (rd l1 x8_1)))) % 4294967296)))) ?hg ?ho ?hn ?hr ?_; (case ho => rfl); (case hg => rfl); (case hn => rfl); (case hr => (go_simp; done)); intro w10 hw; have hg : wr.grownBy w10 (some go8) := (by rw [hw]; exact HP9.2); have hp_ : RW L_ R_ .u32 78 w10 w0.heap.size g_ (.slice (some ⟨go8, L_.length, none⟩) x0_1.length co3) y222 := (by rw [hw, Ny222.out]; exact HP9.1); clear HP9; replace HB := am ((by rw [hw]; exact below_set (HB.out) GB8.out : Below w0.heap.size w0 w10)); replace HK := am (Kept.of_grown (S := (fun k_ => k_ = g_)) hg HK.out (fun k_ e_ => .inl (by cases e_; exact RW_blk (A := none) HO_0.out))); replace HO_0 := am (hp_); clear hg hw hp_))
     (try simp only [← hl0_1])
     go_roundg k1
     case measure => have := HK1.out; omega
     case rel => exact ⟨(y222), ((IntKind.u64.wrap ((IntKind.u64.wrap (x4_1 + (IntKind.u64.wrap (rd x0_1 x8_1)))) + (IntKind.u64.wrap (rd l1 x8_1)))) / 4294967296), (wrap64 (x8_1 + 1)), (by rfl), (by rfl), H', ⟨by have := HK1.out; omega⟩, ⟨by (try simp only [hl0_1]); exact HO_0.out⟩, ⟨by with_reducible exact HK.out⟩, ⟨by with_reducible exact HB.out⟩⟩
    ·
     rw [if_neg c7] at H
     have c7b0 : decide (x8_1 < (l1.length : Int)) = false := decide_eq_false c7
     clear c7
     obtain ⟨y223, hy223⟩ : ∃ y_ : List Int, y_ = (x0_1.set (x8_1 : Int).toNat ((IntKind.u64.wrap (x4_1 + (IntKind.u64.wrap (rd x0_1 x8_1)))) % 4294967296)) := ⟨_, rfl⟩
     replace H : (nat_back.l0 k1 y223 l1 ((IntKind.u64.wrap (x4_1 + (IntKind.u64.wrap (rd x0_1 x8_1)))) / 4294967296) (l0.length : Int) (wrap64 (x8_1 + 1))) = some r := by (rw [hy223]; with_reducible exact H)
     have Ny223 := am hy223
     clear hy223
     have H' := am H
     clear H
     have p220 : 0 ≤ (x8_1 : Int) := of_decide_eq_true (by (with_reducible assumption))
     have q220 : x8_1 < (x0_1.length : Int) := of_decide_eq_true (by (with_reducible assumption))
     obtain ⟨ad220, e220, hx220_0⟩ := Kd.at_int (RW_reads' HO_0.out).2.2 x8_1 p220 q220
     cases e220
     replace p220 := eq_true p220
     replace q220 := eq_true q220
     have p11 : 0 ≤ (x8_1 : Int) := of_decide_eq_true (by (with_reducible assumption))
     have q11 : (x8_1 : Int) < ((x0_1.length : Int) : Int) := of_decide_eq_true (by (with_reducible assumption))
     obtain ⟨go11, co11, eo11, gb11, gl11, cl11, HG11⟩ := RW_form HO_0.out (by omega)
     (cases eo11)
     have GB11 := am gb11
     have GG11 := am HG11
     clear gb11 gl11 HG11
     have HMgo11 := am (show go11 = g_ from RW_blk (A := none) HO_0.out)
     (simp only [add_at] at hx220_0)
     obtain ⟨hx11_0, hf11_0⟩ := RW_celln HO_0.out (x8_1 : Int) p11 q11
     replace p11 := eq_true p11
     replace q11 := eq_true q11
     have HP12 := RW_putg HO_0.out (x8_1 : Int) (of_decide_eq_true (by (with_reducible assumption))) (of_decide_eq_true (by (with_reducible assumption))) ((IntKind.u64.wrap (x4_1 + (IntKind.u64.wrap (rd x0_1 x8_1)))) % 4294967296)
     go_wp2_with (((with_reducible refine gate_store (t := 78) (p := 33) rfl ?_); refine store_event (t := 78) (p := 33) (v := ?vo_w13) (w1 := (wr.setCell ⟨go11, L_.length + (x8_1 : Int).toNat, none⟩ (.int .u32 ((IntKind.u64.wrap (x4_1 + (IntKind.u64.wrap (rd x0_1 x8_1)))) % 4294967296)))) ?hg ?ho ?hn ?hr ?_; (case ho => rfl); (case hg => rfl); (case hn => rfl); (case hr => (go_simp; done)); intro w13 hw; have hg : wr.grownBy w13 (some go11) := (by rw [hw]; exact HP12.2); have hp_ : RW L_ R_ .u32 78 w13 w0.heap.size g_ (.slice (some ⟨go11, L_.length, none⟩) x0_1.length co3) y223 := (by rw [hw, Ny223.out]; exact HP12.1); clear HP12; replace HB := am ((by rw [hw]; exact below_set (HB.out) GB11.out : Below w0.heap.size w0 w13)); replace HK := am (Kept.of_grown (S := (fun k_ => k_ = g_)) hg HK.out (fun k_ e_ => .inl (by cases e_; exact RW_blk (A := none) HO_0.out))); replace HO_0 := am (hp_); clear hg hw hp_))
     (try simp only [← hl0_1])
     go_roundg k1
     case measure => have := HK1.out; omega
     case rel => exact ⟨(y223), ((IntKind.u64.wrap (x4_1 + (IntKind.u64.wrap (rd x0_1 x8_1)))) / 4294967296), (wrap64 (x8_1 + 1)), (by rfl), (by rfl), H', ⟨by have := HK1.out; omega⟩, ⟨by (try simp only [hl0_1]); exact HO_0.out⟩, ⟨by with_reducible exact HK.out⟩, ⟨by with_reducible exact HB.out⟩⟩
   ·
    rw [if_neg c4] at H
    have c4b0 : decide (x8_1 < (l0.length : Int)) = false := decide_eq_false c4
    (try (have c4h0hl0_1 := c4b0; rw [hl0_1] at c4h0hl0_1))
    clear c4
    obtain rfl := Option.some.inj H
    go_wp2
    go_end0
    exact ⟨by rfl, (by exact HO_0.out), by with_reducible exact HB.out, by with_reducible exact HK.out⟩

def nat_backX.f (k : Nat) (l0 : List Int) (lo_ hi_ : Int) (l1 : List Int) : Option (List Int) := if 0 ≤ lo_ ∧ lo_ < hi_ ∧ hi_ ≤ (l0.length : Int) then (nat_back.f k ((l0.take hi_.toNat).drop lo_.toNat) l1).bind fun b_ => (if (b_).length = hi_.toNat - lo_.toNat then some (l0.take lo_.toNat ++ b_ ++ l0.drop hi_.toNat) else none) else none
theorem nat_backX.mono : ∀ a0 a1 a2 a3 k, LeO (nat_backX.f k a0 a1 a2 a3) (nat_backX.f (k + 1) a0 a1 a2 a3) := by
 intro a0 a1 a2 a3 k
 unfold nat_backX.f
 exact LeO.ite (LeO.bind (nat_back.mono _ _ k) (fun _ => LeO.refl _)) (LeO.refl _)
set_option maxHeartbeats 8000000 in
theorem nat_backX.calls (k : Nat) (P0_ : Nat → Prop) (u9000_ : Value) (l0 : List Int) (lo_ hi_ : Int) (A1 : Option Addr) (c1 : Nat) (l1 : List Int) (r : List Int) (w0 w : World) (hB : Below w0.heap.size w0 w) (ho0 : Kd.R (Kd.int .u32) 78 w w0.heap.size P0_ u9000_ l0) {A_ : Option Addr} {m_ c_ : Nat} {AW_ : Option Addr} {nW_ cW_ : Nat} (hAW_ : AW_ = (if c_ = lo_.toNat then A_ else A_.map (·.add (lo_.toNat * 1)))) (hnW_ : nW_ = hi_.toNat - lo_.toNat) (hcW_ : nW_ ≤ cW_) (hr1 : ∀ W_, Kept w W_ (fun k_ => P0_ k_) → Kd.C (Kd.int .u32) W_ A1 l1.length l1) (hc1 : l1.length ≤ c1) (hu_ : u9000_ = .slice A_ m_ c_) (h : nat_backX.f k l0 lo_ hi_ l1 = some r) :
  Calls Try.prog 118 #[.slice AW_ nW_ cW_, .slice A1 l1.length c1] w fun e w' => e = .returned (.tuple #[]) ∧ Kd.R (Kd.int .u32) 78 w' w0.heap.size (fun k_ => (P0_ k_ ∨ w.heap.size ≤ k_)) u9000_ r ∧ Below w0.heap.size w0 w' ∧ Kept w w' (fun k_ => P0_ k_) := by
 subst hu_
 unfold nat_backX.f at h
 by_cases hb_ : 0 ≤ lo_ ∧ lo_ < hi_ ∧ hi_ ≤ (l0.length : Int)
 ·
  rw [if_pos hb_] at h
  obtain ⟨b_, hf_, h⟩ := Option.bind_eq_some_iff.mp h
  by_cases hl_ : b_.length = hi_.toNat - lo_.toNat
  ·
   simp only [if_pos hl_, Option.some.injEq] at h
   obtain rfl := h
   obtain ⟨g_, R_, hRW_, hback_⟩ := RW_of_R ho0 lo_ hi_ hb_.1 hb_.2.1 hb_.2.2 hAW_ hnW_ hcW_
   refine (nat_back.callsW k g_ (nums .u32 (l0.take lo_.toNat)) R_ _ _ A1 c1 l1 _ w0 w hB hRW_ (fun W_ hk_ => hr1 W_ (hk_.mono (fun k_ he_ => by rw [he_]; exact hback_.1))) hc1 hf_).mono ?_
   rintro e w' ⟨he_, hw_, hB_, hK_⟩
   exact ⟨he_, hback_.2 _ _ hw_ hl_ (fun k_ hk_ => .inl hk_), hB_, hK_.mono (fun k_ hk_ => by rw [hk_]; exact hback_.1)⟩
  ·
   simp [if_neg hl_] at h
 ·
  rw [if_neg hb_] at h
  exact absurd h (by simp)

end Go.Proofs.Ytmfmojldebhboaa.ZWhole
