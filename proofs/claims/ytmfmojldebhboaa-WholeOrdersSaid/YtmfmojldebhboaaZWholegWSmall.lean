-- printed by zprint.py, a program of this session's
import Derived.Test.YtmfmojldebhboaaZWhole0
import Derived.Test.YtmfmojldebhboaaZWholegSize
namespace Go.Proofs.Ytmfmojldebhboaa.ZWhole
open Go.RowKit Go.Proofs.YtmfmojldebhboaaW.PrintWords Go.Proofs.YtmfmojldebhboaaW.PrintLast Go.Proofs.YtmfmojldebhboaaW.PrintMore
set_option linter.unusedVariables false
set_option linter.unusedSimpArgs false

/-! ### whole_Small: function 28 -/
mutual
def whole_Small.l0 : Nat → Int → List Int → Int → Int → Bool → List Int → Option (Int × Bool)
 | 0, _, _, _, _, _, _ => none
 | k + 1, x4, x9, x10, x11, x844000, x844001 => if x11 < x10 then (if 0 ≤ x11 then (if x11 < (x9.length : Int) then (if x11 > 1 then (some (0, false)) else (if 0 ≤ (wrap64 (32 * x11)) then (whole_Small.l0 k (Go.bits .or .u64 x4 (shl .u64 (IntKind.u64.wrap (rd x9 x11)) (wrap64 (32 * x11)))) x9 x10 (wrap64 (x11 + 1)) x844000 x844001) else (none))) else (none)) else (none)) else (if x844000 = true then (whole_Small.j1 k x4 (decide (x4 ≤ 9223372036854775808)) x844000 x844001) else (whole_Small.j1 k x4 false x844000 x844001))
def whole_Small.j1 : Nat → Int → Bool → Bool → List Int → Option (Int × Bool)
 | 0, _, _, _, _ => none
 | k + 1, x4, x26, x844000, x844001 => if x26 = true then (some (wrap64 (IntKind.u64.wrap (-x4)), true)) else (if x844000 = true then (some (0, false)) else (if x4 < 9223372036854775808 then (some (wrap64 (x4), true)) else (some (0, false))))
end
def whole_Small.f (k : Nat) (a0_0 : Bool) (l0_1 : List Int) : Option (Int × Bool) := (nat_Trim.f k l0_1).bind fun t844 => (whole_Small.l0 k 0 t844 (t844.length : Int) 0 a0_0 l0_1)
theorem whole_Small.mono_l : ∀ k, (∀ y0 y1 y2 y3 y4 y5, LeO (whole_Small.l0 k y0 y1 y2 y3 y4 y5) (whole_Small.l0 (k + 1) y0 y1 y2 y3 y4 y5)) ∧ (∀ y0 y1 y2 y3, LeO (whole_Small.j1 k y0 y1 y2 y3) (whole_Small.j1 (k + 1) y0 y1 y2 y3))
 | 0 => ⟨fun _ _ _ _ _ _ r h => by simp [whole_Small.l0] at h, fun _ _ _ _ r h => by simp [whole_Small.j1] at h⟩
 | k + 1 => by
  obtain ⟨ih0, ih1⟩ := whole_Small.mono_l k
  refine ⟨?_, ?_⟩
  ·
   intro y0 y1 y2 y3 y4 y5
   unfold whole_Small.l0
   repeat' first
   | (with_reducible exact ih0 _ _ _ _ _ _)
   | (with_reducible exact ih1 _ _ _ _)
   | (with_reducible exact LeO.refl _)
   | (with_reducible refine LeO.ite ?_ ?_)
  ·
   intro y0 y1 y2 y3
   unfold whole_Small.j1
   repeat' first
   | (with_reducible exact LeO.refl _)
theorem whole_Small.mono : ∀ a0 a1 k, LeO (whole_Small.f k a0 a1) (whole_Small.f (k + 1) a0 a1) := by
 intro a0 a1 k
 obtain ⟨ih0, ih1⟩ := whole_Small.mono_l k
 unfold whole_Small.f
 repeat' first
   | (with_reducible exact ih0 _ _ _ _ _ _)
   | (with_reducible exact nat_Trim.mono _ _)
   | (with_reducible refine LeO.bind ?_ (fun _ => ?_))
set_option maxHeartbeats 8000000 in
set_option maxRecDepth 100000 in
theorem whole_Small.calls (k : Nat) (a0_0 : Bool) (A0_1 : Option Addr) (c0_1 : Nat) (l0_1 : List Int) (r1 : Int) (r2 : Bool) (w : World) (hr0_1 : Kd.C (Kd.int .u32) w A0_1 l0_1.length l0_1) (hc0_1 : l0_1.length ≤ c0_1) (h : whole_Small.f k a0_0 l0_1 = some (r1, r2)) :
  Calls Try.prog 28 #[.agg #[.bool a0_0, .slice A0_1 l0_1.length c0_1]] w fun e w' => e = .returned (.tuple #[.int .i64 r1, .bool r2]) ∧ Below w.heap.size w w' := by
 have hu25 := Try.underlying25
 have HR0_1 := am hr0_1
 have HC0_1 := am hc0_1
 clear hr0_1 hc0_1
 have HB := am (Below.refl w.heap.size w)
 have H : ((nat_Trim.f k l0_1).bind fun t844 => (whole_Small.l0 k 0 t844 (t844.length : Int) 0 a0_0 l0_1)) = some (r1, r2) := h
 clear h
 obtain ⟨t844, A2, H⟩ := bindE H
 have H' := am H
 clear H
 go_enter Try.func28, Try.ntmps28
 go_wp2_with (first | ((with_reducible refine gate_dst (N := 1) rfl ?_); refine box_event ?hg (N := 1) ?hd (cs := #[.bool a0_0, .slice A0_1 l0_1.length c0_1]) (t := 25) ?hr ?_; (case hd => rfl); (case hg => rfl); (case hr => (go_simp; done)); intro gb843 hg w3 hbox hb; have BK843 := am hbox; have GW843 := am (gel hg HB.out); have GE843 := am (gel hg HB.out); replace HB := am (below_step HB.out hb); clear hb hbox hg; have hcz4_0 : w3.cell? ⟨gb843, 0, none⟩ = some (.bool a0_0) := (blk_cell BK843.out 0).trans rfl; have hcz4_1 : w3.cell? ⟨gb843, 1, none⟩ = some (.slice A0_1 l0_1.length c0_1) := (blk_cell BK843.out 1).trans rfl; have hfz4_0 := blk_frozen BK843.out 0; have hfz4_1 := blk_frozen BK843.out 1) | ((with_reducible refine gate_callee (f := 58) rfl ?_); refine goesL_ (some 9) rfl rfl Try.func58 (by kernel_rfl) rfl #[.slice A0_1 l0_1.length c0_1] rfl (by (try simp only [List.map_toArray, List.map_cons, List.map_nil]); rfl) ?_; (with_reducible refine (nat_Trim.calls k _ _ l0_1 t844 _ ?side1 ?side2 A2.out).mono ?_); (case side1 => repeat (exact (Kd.C_below HR0_1.out HB.out))); (case side2 => exact HC0_1.out); rintro e w5 ⟨v845, rfl, ho0, hb⟩; refine ⟨_, rfl, ?_⟩; have HO846 := am (Kd.R_lower ho0 (below_size HB.out)); replace BK843 := am (blk_below BK843.out hb); replace HB := am (below_step HB.out hb); (try clear hb); (try clear ho0); obtain ⟨Ao6, co6, eo6⟩ := Kd.R_slice HO846.out; subst eo6))
 go_loopg [4, 11] k (fun kq v4 v11 w' => ∃ (x4_1 : Int) (x11_1 : Int), v4 = .int .u64 x4_1 ∧ v11 = .int .i64 x11_1 ∧ Aside0 (whole_Small.l0 kq x4_1 t844 (t844.length : Int) x11_1 a0_0 l0_1 = some (r1, r2)) ∧ Aside0 (kq ≤ k) ∧ Aside0 (Kd.R (Kd.int .u32) 78 w' w.heap.size (fun _ => True) (.slice Ao6 t844.length co6) t844) ∧ Aside0 (w'.heap[gb843]? = some (.cells #[.bool a0_0, (.slice A0_1 l0_1.length c0_1)] 25 (0, 0))) ∧ Aside0 (Below w.heap.size w w'))
 case atStart => exact ⟨(0), (0), (by rfl), (by rfl), H', ⟨Nat.le_refl _⟩, ⟨by exact HO846.out⟩, ⟨by exact BK843.out⟩, ⟨by with_reducible exact HB.out⟩⟩
 case round =>
  clear H'
  try clear hcz4_0
  try clear hcz4_1
  try clear hfz4_0
  try clear hfz4_1
  obtain ⟨x4_1, x11_1, rfl, rfl, HA, HK1, HO_9, BK843, HB⟩ := hrel
  cases gk with
  | zero => exact absurd HA.out (by simp [whole_Small.l0])
  | succ k1 =>
   have H := HA.out
   clear HA
   simp only [whole_Small.l0] at H
   by_cases c7 : x11_1 < (t844.length : Int)
   ·
    rw [if_pos c7] at H
    have c7b0 : decide (x11_1 < (t844.length : Int)) = true := decide_eq_true c7
    clear c7
    obtain ⟨c8, H⟩ := iteS H
    have c8b0 : decide (0 ≤ x11_1) = true := decide_eq_true c8
    clear c8
    obtain ⟨c9, H⟩ := iteS H
    have c9b0 : decide (x11_1 < (t844.length : Int)) = true := decide_eq_true c9
    clear c9
    by_cases c10 : x11_1 > 1
    ·
     rw [if_pos c10] at H
     have c10b0 : decide (1 < x11_1) = true := decide_eq_true c10
     clear c10
     simp only [Option.some.injEq, Prod.mk.injEq] at H
     obtain ⟨rfl, rfl⟩ := H
     have p847 : 0 ≤ (x11_1 : Int) := of_decide_eq_true (by (with_reducible assumption))
     have q847 : x11_1 < (t844.length : Int) := of_decide_eq_true (by (with_reducible assumption))
     obtain ⟨ad847, e847, hx847_0⟩ := Kd.at_int (Kd.R_reads' HO_9.out).2.2 x11_1 p847 q847
     cases e847
     replace p847 := eq_true p847
     replace q847 := eq_true q847
     go_wp2
     go_ret2
     exact ⟨by rfl, by with_reducible exact HB.out⟩
    ·
     rw [if_neg c10] at H
     have c10b0 : decide (1 < x11_1) = false := decide_eq_false c10
     clear c10
     obtain ⟨ji11, hji11⟩ : ∃ j_ : Int, (wrap64 (32 * x11_1)) = j_ := ⟨_, rfl⟩
     replace H : (if 0 ≤ (ji11) then (whole_Small.l0 k1 (Go.bits .or .u64 x4_1 (shl .u64 (IntKind.u64.wrap (rd t844 x11_1)) (ji11))) t844 (t844.length : Int) (wrap64 (x11_1 + 1)) a0_0 l0_1) else (none)) = some (r1, r2) := by (rw [hji11] at H; exact H)
     have hji11w : (IntKind.i64.wrap (32 * x11_1)) = ji11 := (i64_w _).trans hji11
     obtain ⟨c12, H⟩ := iteS H
     have c12b0 := eq_true c12
     have c12b1 : decide (0 ≤ (ji11)) = true := decide_eq_true c12
     clear c12
     obtain ⟨ji13, hji13⟩ : ∃ j_ : Int, (shl .u64 (IntKind.u64.wrap (rd t844 x11_1)) (ji11)) = j_ := ⟨_, rfl⟩
     replace H : (whole_Small.l0 k1 (Go.bits .or .u64 x4_1 (ji13)) t844 (t844.length : Int) (wrap64 (x11_1 + 1)) a0_0 l0_1) = some (r1, r2) := by (rw [hji13] at H; exact H)
     have hji13_ : (IntKind.u64.wrap ((IntKind.u64.wrap (rd t844 x11_1)) * 2 ^ min (ji11).toNat 64)) = ji13 := hji13
     have hji13z : (ji11) ≤ 64 → (IntKind.u64.wrap ((IntKind.u64.wrap (rd t844 x11_1)) * 2 ^ (ji11).toNat)) = ji13 := shl_small hji13
     have H' := am H
     clear H
     have p847 : 0 ≤ (x11_1 : Int) := of_decide_eq_true (by (with_reducible assumption))
     have q847 : x11_1 < (t844.length : Int) := of_decide_eq_true (by (with_reducible assumption))
     obtain ⟨ad847, e847, hx847_0⟩ := Kd.at_int (Kd.R_reads' HO_9.out).2.2 x11_1 p847 q847
     cases e847
     replace p847 := eq_true p847
     replace q847 := eq_true q847
     go_wp2
     go_roundg k1
     case measure => have := HK1.out; omega
     case rel => exact ⟨(Go.bits .or .u64 x4_1 (ji13)), (wrap64 (x11_1 + 1)), (by rfl), (by rfl), H', ⟨by have := HK1.out; omega⟩, ⟨by exact HO_9.out⟩, ⟨by exact BK843.out⟩, ⟨by with_reducible exact HB.out⟩⟩
   ·
    rw [if_neg c7] at H
    have c7b0 : decide (x11_1 < (t844.length : Int)) = false := decide_eq_false c7
    clear c7
    have HC14 := am H
    clear H
    go_upto_region 9 with (fail)
    go_cut [26] (fun v26 wc => ∃ (kq : Nat) (x26_13 : Bool), v26 = .bool x26_13 ∧ Aside0 (whole_Small.j1 kq x4_1 x26_13 a0_0 l0_1 = some (r1, r2)) ∧ Aside0 (kq ≤ k1) ∧ Aside0 (wc.heap[gb843]? = some (.cells #[.bool a0_0, (.slice A0_1 l0_1.length c0_1)] 25 (0, 0))) ∧ Aside0 (Below w.heap.size w wc))
    case first =>
     have H := HC14.out
     clear HC14
     by_cases c15 : a0_0 = true
     ·
      subst c15
      rw [if_pos rfl] at H
      have H' := am H
      clear H
      have hcz16_0 : wr.cell? ⟨gb843, 0, none⟩ = some (.bool true) := (blk_cell BK843.out 0).trans rfl
      have hcz16_1 : wr.cell? ⟨gb843, 1, none⟩ = some (.slice A0_1 l0_1.length c0_1) := (blk_cell BK843.out 1).trans rfl
      have hfz16_0 := blk_frozen BK843.out 0
      have hfz16_1 := blk_frozen BK843.out 1
      go_wp2
      go_meet
      case rel => exact ⟨_, (decide (x4_1 ≤ 9223372036854775808)), (by rfl), H', ⟨by have := HK1.out; omega⟩, ⟨by exact BK843.out⟩, ⟨by with_reducible exact HB.out⟩⟩
     ·
      replace c15 := Bool.eq_false_iff.mpr c15
      subst c15
      rw [if_neg (show ¬ (false = true) by decide)] at H
      have H' := am H
      clear H
      have hcz17_0 : wr.cell? ⟨gb843, 0, none⟩ = some (.bool false) := (blk_cell BK843.out 0).trans rfl
      have hcz17_1 : wr.cell? ⟨gb843, 1, none⟩ = some (.slice A0_1 l0_1.length c0_1) := (blk_cell BK843.out 1).trans rfl
      have hfz17_0 := blk_frozen BK843.out 0
      have hfz17_1 := blk_frozen BK843.out 1
      go_wp2
      go_meet
      case rel => exact ⟨_, (false), (by rfl), H', ⟨by have := HK1.out; omega⟩, ⟨by exact BK843.out⟩, ⟨by with_reducible exact HB.out⟩⟩
    case rest =>
     clear HC14
     try clear c7b0
     obtain ⟨kq, x26_13, rfl, HA, HJ13, BK843, HB⟩ := hcut
     cases kq with
     | zero => exact absurd HA.out (by simp [whole_Small.j1])
     | succ kj13 =>
      have H := HA.out
      clear HA
      simp only [whole_Small.j1] at H
      by_cases c18 : x26_13 = true
      ·
       subst c18
       rw [if_pos rfl] at H
       simp only [Option.some.injEq, Prod.mk.injEq] at H
       obtain ⟨rfl, rfl⟩ := H
       go_wp2
       go_ret2
       exact ⟨by rfl, by with_reducible exact HB.out⟩
      ·
       replace c18 := Bool.eq_false_iff.mpr c18
       subst c18
       rw [if_neg (show ¬ (false = true) by decide)] at H
       by_cases c19 : a0_0 = true
       ·
        subst c19
        rw [if_pos rfl] at H
        simp only [Option.some.injEq, Prod.mk.injEq] at H
        obtain ⟨rfl, rfl⟩ := H
        have hcz20_0 : wc.cell? ⟨gb843, 0, none⟩ = some (.bool true) := (blk_cell BK843.out 0).trans rfl
        have hcz20_1 : wc.cell? ⟨gb843, 1, none⟩ = some (.slice A0_1 l0_1.length c0_1) := (blk_cell BK843.out 1).trans rfl
        have hfz20_0 := blk_frozen BK843.out 0
        have hfz20_1 := blk_frozen BK843.out 1
        go_wp2
        go_ret2
        exact ⟨by rfl, by with_reducible exact HB.out⟩
       ·
        replace c19 := Bool.eq_false_iff.mpr c19
        subst c19
        rw [if_neg (show ¬ (false = true) by decide)] at H
        by_cases c21 : x4_1 < 9223372036854775808
        ·
         rw [if_pos c21] at H
         have c21b0 : decide (x4_1 < 9223372036854775808) = true := decide_eq_true c21
         clear c21
         simp only [Option.some.injEq, Prod.mk.injEq] at H
         obtain ⟨rfl, rfl⟩ := H
         have hcz22_0 : wc.cell? ⟨gb843, 0, none⟩ = some (.bool false) := (blk_cell BK843.out 0).trans rfl
         have hcz22_1 : wc.cell? ⟨gb843, 1, none⟩ = some (.slice A0_1 l0_1.length c0_1) := (blk_cell BK843.out 1).trans rfl
         have hfz22_0 := blk_frozen BK843.out 0
         have hfz22_1 := blk_frozen BK843.out 1
         go_wp2
         go_ret2
         exact ⟨by rfl, by with_reducible exact HB.out⟩
        ·
         rw [if_neg c21] at H
         have c21b0 : decide (x4_1 < 9223372036854775808) = false := decide_eq_false c21
         clear c21
         simp only [Option.some.injEq, Prod.mk.injEq] at H
         obtain ⟨rfl, rfl⟩ := H
         have hcz23_0 : wc.cell? ⟨gb843, 0, none⟩ = some (.bool false) := (blk_cell BK843.out 0).trans rfl
         have hcz23_1 : wc.cell? ⟨gb843, 1, none⟩ = some (.slice A0_1 l0_1.length c0_1) := (blk_cell BK843.out 1).trans rfl
         have hfz23_0 := blk_frozen BK843.out 0
         have hfz23_1 := blk_frozen BK843.out 1
         go_wp2
         go_ret2
         exact ⟨by rfl, by with_reducible exact HB.out⟩

end Go.Proofs.Ytmfmojldebhboaa.ZWhole
