-- printed by zprint.py, a program of this session's
import Derived.Test.YtmfmojldebhboaaZWhole0
namespace Go.Proofs.Ytmfmojldebhboaa.ZWhole
open Go.RowKit Go.Proofs.YtmfmojldebhboaaW.PrintWords Go.Proofs.YtmfmojldebhboaaW.PrintLast Go.Proofs.YtmfmojldebhboaaW.PrintMore
set_option linter.unusedVariables false
set_option linter.unusedSimpArgs false

/-! ### nat_Parse: function 62 -/
mutual
def nat_Parse.l0 : Nat → ByteArray → List Int → Int → Int → Option (List Int × Int)
 | 0, _, _, _, _ => none
 | k + 1, x0, x11, x12, x13 => if x13 < x12 then (if 0 ≤ x13 then (if x13 < (x11.length : Int) then (if (rd x11 x13) < 48 then (some (([] : List Int), 4)) else (if (rd x11 x13) > 57 then (some (([] : List Int), 4)) else (nat_Parse.l0 k x0 x11 x12 (wrap64 (x13 + 1))))) else (none)) else (none)) else (if x0.toList = ([] : List UInt8) then (nat_Parse.j1 k x0 true) else (if 0 < (x0.size : Int) then (if (bt x0 0) = 48 then (nat_Parse.j1 k x0 (decide ((x0.size : Int) > 1))) else (nat_Parse.j1 k x0 false)) else (none)))
def nat_Parse.j1 : Nat → ByteArray → Bool → Option (List Int × Int)
 | 0, _, _ => none
 | k + 1, x0, x24 => if x24 = true then (some (([] : List Int), 4)) else (if (x0.size : Int) > 2000 then (some (([] : List Int), 5)) else (nat_Parse.l1 k x0 ([] : List Int) (x0.size : Int) 0))
def nat_Parse.l1 : Nat → ByteArray → List Int → Int → Int → Option (List Int × Int)
 | 0, _, _, _, _ => none
 | k + 1, x0, x6, x42, x43 => if x43 < x42 then (if 0 ≤ x43 then (if x43 < (x0.size : Int) then (nat_Parse.l2 k x0 x6 (((bt x0 x43) - 48) % 256) x42 x43 (x6.length : Int) 0) else (none)) else (none)) else (some (x6, 0))
def nat_Parse.l2 : Nat → ByteArray → List Int → Int → Int → Int → Int → Int → Option (List Int × Int)
 | 0, _, _, _, _, _, _, _ => none
 | k + 1, x0, x6, x8, x42, x43, x52, x53 => if x53 < x52 then (if 0 ≤ x53 then (if x53 < (x6.length : Int) then (nat_Parse.l2 k x0 (x6.set (x53 : Int).toNat ((IntKind.u64.wrap (x8 + (IntKind.u64.wrap ((IntKind.u64.wrap (rd x6 x53)) * 10)))) % 4294967296)) ((IntKind.u64.wrap (x8 + (IntKind.u64.wrap ((IntKind.u64.wrap (rd x6 x53)) * 10)))) / 4294967296) x42 x43 x52 (wrap64 (x53 + 1))) else (none)) else (none)) else (if x8 > 0 then (if x6.length < 35184372088832 then (nat_Parse.l1 k x0 (x6 ++ [(x8) % 4294967296]) x42 (wrap64 (x43 + 1))) else (none)) else (nat_Parse.l1 k x0 x6 x42 (wrap64 (x43 + 1))))
end
def nat_Parse.f (k : Nat) (a0 : ByteArray) : Option (List Int × Int) := if a0.size ≤ 9223372036854775807 then ((some (bytesOf a0 : List Int)).bind fun y954 => (nat_Parse.l0 k a0 y954 (y954.length : Int) 0)) else (none)
theorem nat_Parse.mono_l : ∀ k, (∀ y0 y1 y2 y3, LeO (nat_Parse.l0 k y0 y1 y2 y3) (nat_Parse.l0 (k + 1) y0 y1 y2 y3)) ∧ (∀ y0 y1, LeO (nat_Parse.j1 k y0 y1) (nat_Parse.j1 (k + 1) y0 y1)) ∧ (∀ y0 y1 y2 y3, LeO (nat_Parse.l1 k y0 y1 y2 y3) (nat_Parse.l1 (k + 1) y0 y1 y2 y3)) ∧ (∀ y0 y1 y2 y3 y4 y5 y6, LeO (nat_Parse.l2 k y0 y1 y2 y3 y4 y5 y6) (nat_Parse.l2 (k + 1) y0 y1 y2 y3 y4 y5 y6))
 | 0 => ⟨fun _ _ _ _ r h => by simp [nat_Parse.l0] at h, fun _ _ r h => by simp [nat_Parse.j1] at h, fun _ _ _ _ r h => by simp [nat_Parse.l1] at h, fun _ _ _ _ _ _ _ r h => by simp [nat_Parse.l2] at h⟩
 | k + 1 => by
  obtain ⟨ih0, ih1, ih2, ih3⟩ := nat_Parse.mono_l k
  refine ⟨?_, ?_, ?_, ?_⟩
  ·
   intro y0 y1 y2 y3
   unfold nat_Parse.l0
   repeat' first
   | (with_reducible exact ih0 _ _ _ _)
   | (with_reducible exact ih1 _ _)
   | (with_reducible exact LeO.refl _)
   | (with_reducible refine LeO.ite ?_ ?_)
  ·
   intro y0 y1
   unfold nat_Parse.j1
   repeat' first
   | (with_reducible exact ih2 _ _ _ _)
   | (with_reducible exact LeO.refl _)
   | (with_reducible refine LeO.ite ?_ ?_)
  ·
   intro y0 y1 y2 y3
   unfold nat_Parse.l1
   repeat' first
   | (with_reducible exact ih3 _ _ _ _ _ _ _)
   | (with_reducible exact LeO.refl _)
   | (with_reducible refine LeO.ite ?_ ?_)
  ·
   intro y0 y1 y2 y3 y4 y5 y6
   unfold nat_Parse.l2
   repeat' first
   | (with_reducible exact ih2 _ _ _ _)
   | (with_reducible exact ih3 _ _ _ _ _ _ _)
   | (with_reducible exact LeO.refl _)
   | (with_reducible refine LeO.ite ?_ ?_)
theorem nat_Parse.mono : ∀ a0 k, LeO (nat_Parse.f k a0) (nat_Parse.f (k + 1) a0) := by
 intro a0 k
 obtain ⟨ih0, ih1, ih2, ih3⟩ := nat_Parse.mono_l k
 unfold nat_Parse.f
 repeat' first
   | (with_reducible exact ih0 _ _ _ _)
   | (with_reducible exact LeO.refl _)
   | (with_reducible refine LeO.ite ?_ ?_)
   | (with_reducible refine LeO.bind ?_ (fun _ => ?_))
set_option maxHeartbeats 8000000 in
set_option maxRecDepth 100000 in
theorem nat_Parse.calls (k : Nat) (a0 : ByteArray) (r1 : List Int) (r2 : Int) (w : World) (h : nat_Parse.f k a0 = some (r1, r2)) :
  Calls Try.prog 62 #[.string a0] w fun e w' => ∃ v0_ : Value, e = .returned (.tuple #[v0_, .int .i64 r2]) ∧ Kd.R (Kd.int .u32) 78 w' w.heap.size (fun _ => True) v0_ r1 ∧ Below w.heap.size w w' := by
 have HB := am (Below.refl w.heap.size w)
 have H : (if a0.size ≤ 9223372036854775807 then ((some (bytesOf a0 : List Int)).bind fun y954 => (nat_Parse.l0 k a0 y954 (y954.length : Int) 0)) else (none)) = some (r1, r2) := h
 clear h
 obtain ⟨c2, H⟩ := iteS H
 have c2b0 := eq_true c2
 have c2b1 : decide (a0.size ≤ 9223372036854775807) = true := decide_eq_true c2
 try have c2b2 : (9223372036854775807 < a0.size) = False := eq_false (Nat.not_lt.2 c2)
 clear c2
 obtain ⟨y954, hy954⟩ : ∃ y_ : List Int, y_ = (bytesOf a0) := ⟨_, rfl⟩
 replace H : (nat_Parse.l0 k a0 y954 (y954.length : Int) 0) = some (r1, r2) := by (have H2_ := (Option.bind_some _ _).symm.trans H; rw [hy954]; with_reducible exact H2_)
 have Ny954 := am hy954
 clear hy954
 have H' := am H
 clear H
 go_enter Try.func62, Try.ntmps62
 go_wp2_with (((with_reducible refine gate_dst (N := 11) rfl ?_); (try (refine gate_guard (by rfl) ?_; dsimp only)); refine Kd.V_bytes _ 5 rfl (N := 11) rfl 9 127 _ rfl a0 rfl Try.underlying9 Try.underlying127 Try.underlying5 (of_decide_eq_true (by (with_reducible assumption))) (Below.refl _ _) (Nat.le_refl _) ?_; intro v955 w3 ho4 hb hg_ hnew_; clear hg_ hnew_; (rw [← Ny954.out] at ho4); have HO956 := am (Kd.V_lower (Kd.V_mono (ok' := fun k_ => True) ho4 (fun k_ hk_ => trivial)) (below_size HB.out)); replace HB := am (below_step HB.out hb); clear hb ho4; obtain ⟨Ao5, co5, eo5⟩ := Kd.V_slice HO956.out; subst eo5))
 go_loopg [13] k (fun kq v13 w' => ∃ (x13_1 : Int), v13 = .int .i64 x13_1 ∧ Aside0 (nat_Parse.l0 kq a0 y954 (y954.length : Int) x13_1 = some (r1, r2)) ∧ Aside0 (kq ≤ k) ∧ Aside0 (Kd.V (Kd.int .u8) 5 w' w.heap.size (fun _ => True) (.slice Ao5 y954.length co5) y954) ∧ Aside0 (Below w.heap.size w w'))
 case atStart => exact ⟨(0), (by rfl), H', ⟨Nat.le_refl _⟩, ⟨by exact HO956.out⟩, ⟨by with_reducible exact HB.out⟩⟩
 case round =>
  clear H'
  try clear c2b0
  try clear c2b1
  try clear c2b2
  obtain ⟨x13_1, rfl, HA, HK1, HO_11, HB⟩ := hrel
  cases gk with
  | zero => exact absurd HA.out (by simp [nat_Parse.l0])
  | succ k1 =>
   have H := HA.out
   clear HA
   simp only [nat_Parse.l0] at H
   by_cases c6 : x13_1 < (y954.length : Int)
   ·
    rw [if_pos c6] at H
    have c6b0 : decide (x13_1 < (y954.length : Int)) = true := decide_eq_true c6
    clear c6
    obtain ⟨c7, H⟩ := iteS H
    have c7b0 : decide (0 ≤ x13_1) = true := decide_eq_true c7
    clear c7
    obtain ⟨c8, H⟩ := iteS H
    have c8b0 : decide (x13_1 < (y954.length : Int)) = true := decide_eq_true c8
    clear c8
    by_cases c9 : (rd y954 x13_1) < 48
    ·
     rw [if_pos c9] at H
     have c9b0 : decide ((rd y954 x13_1) < 48) = true := decide_eq_true c9
     clear c9
     simp only [Option.some.injEq, Prod.mk.injEq] at H
     obtain ⟨rfl, rfl⟩ := H
     have p957 : 0 ≤ (x13_1 : Int) := of_decide_eq_true (by (with_reducible assumption))
     have q957 : x13_1 < (y954.length : Int) := of_decide_eq_true (by (with_reducible assumption))
     obtain ⟨ad957, e957, hx957_0⟩ := Kd.at_int (Kd.V_reads' HO_11.out).2.2 x13_1 p957 q957
     cases e957
     replace p957 := eq_true p957
     replace q957 := eq_true q957
     go_wp2
     go_ret2
     exact ⟨_, by rfl, by exact Kd.R_nil _ _ _ _ _, by with_reducible exact HB.out⟩
    ·
     rw [if_neg c9] at H
     have c9b0 : decide ((rd y954 x13_1) < 48) = false := decide_eq_false c9
     clear c9
     by_cases c10 : (rd y954 x13_1) > 57
     ·
      rw [if_pos c10] at H
      have c10b0 : decide (57 < (rd y954 x13_1)) = true := decide_eq_true c10
      clear c10
      simp only [Option.some.injEq, Prod.mk.injEq] at H
      obtain ⟨rfl, rfl⟩ := H
      have p957 : 0 ≤ (x13_1 : Int) := of_decide_eq_true (by (with_reducible assumption))
      have q957 : x13_1 < (y954.length : Int) := of_decide_eq_true (by (with_reducible assumption))
      obtain ⟨ad957, e957, hx957_0⟩ := Kd.at_int (Kd.V_reads' HO_11.out).2.2 x13_1 p957 q957
      cases e957
      replace p957 := eq_true p957
      replace q957 := eq_true q957
      go_wp2
      go_ret2
      exact ⟨_, by rfl, by exact Kd.R_nil _ _ _ _ _, by with_reducible exact HB.out⟩
     ·
      rw [if_neg c10] at H
      have c10b0 : decide (57 < (rd y954 x13_1)) = false := decide_eq_false c10
      clear c10
      have H' := am H
      clear H
      have p957 : 0 ≤ (x13_1 : Int) := of_decide_eq_true (by (with_reducible assumption))
      have q957 : x13_1 < (y954.length : Int) := of_decide_eq_true (by (with_reducible assumption))
      obtain ⟨ad957, e957, hx957_0⟩ := Kd.at_int (Kd.V_reads' HO_11.out).2.2 x13_1 p957 q957
      cases e957
      replace p957 := eq_true p957
      replace q957 := eq_true q957
      go_wp2
      go_roundg k1
      case measure => have := HK1.out; omega
      case rel => exact ⟨(wrap64 (x13_1 + 1)), (by rfl), H', ⟨by have := HK1.out; omega⟩, ⟨by exact HO_11.out⟩, ⟨by with_reducible exact HB.out⟩⟩
   ·
    rw [if_neg c6] at H
    have c6b0 : decide (x13_1 < (y954.length : Int)) = false := decide_eq_false c6
    clear c6
    have HC11 := am H
    clear H
    go_upto_region 7 with (fail)
    go_cut [24] (fun v24 wc => ∃ (kq : Nat) (x24_10 : Bool), v24 = .bool x24_10 ∧ Aside0 (nat_Parse.j1 kq a0 x24_10 = some (r1, r2)) ∧ Aside0 (kq ≤ k1) ∧ Aside0 (Below w.heap.size w wc))
    case first =>
     have H := HC11.out
     clear HC11
     by_cases c12 : a0.toList = ([] : List UInt8)
     ·
      rw [if_pos c12] at H
      have c12b0 : (a0.toList == ([] : List UInt8)) = true := beq_iff_eq.mpr c12
      have c12b1 : (a0.toList != ([] : List UInt8)) = false := bne_eq_false_iff_eq.mpr c12
      clear c12
      (skip)
      have H' := am H
      clear H
      go_wp2
      go_meet
      case rel => exact ⟨_, (true), (by rfl), H', ⟨by have := HK1.out; omega⟩, ⟨by with_reducible exact HB.out⟩⟩
     ·
      rw [if_neg c12] at H
      have c12b0 : (a0.toList == ([] : List UInt8)) = false := beq_eq_false_iff_ne.mpr c12
      have c12b1 : (a0.toList != ([] : List UInt8)) = true := bne_iff_ne.mpr c12
      (skip)
      obtain ⟨c13, H⟩ := iteS H
      have c13b0 : decide (0 < (a0.size : Int)) = true := decide_eq_true c13
      have c13b1 : decide (0 < a0.size) = true := decide_eq_true (by omega)
      clear c13
      by_cases c15 : (bt a0 0) = 48
      ·
       rw [if_pos c15] at H
       have c15b0 : ((bt a0 0) == 48) = true := beq_iff_eq.mpr c15
       have c15b1 : ((bt a0 0) != 48) = false := bne_eq_false_iff_eq.mpr c15
       clear c15
       have H' := am H
       clear H
       have p14 : 0 ≤ (0 : Int) := (by omega)
       have q14 : 0 < a0.size := (by have : (0 : Int) < (a0.size : Int) := of_decide_eq_true (by (with_reducible assumption)); omega)
       have hx14 : ∀ h : 0 < a0.size, ((a0[0]'h).toNat : Int) = bt a0 0 := bt_at a0 0
       clear p14
       have qi14 : (0 < (a0.size : Int)) = True := eq_true (of_decide_eq_true (by (with_reducible assumption)))
       replace q14 := eq_true q14
       go_wp2
       go_meet
       case rel => exact ⟨_, (decide ((a0.size : Int) > 1)), (by rfl), H', ⟨by have := HK1.out; omega⟩, ⟨by with_reducible exact HB.out⟩⟩
      ·
       rw [if_neg c15] at H
       have c15b0 : ((bt a0 0) == 48) = false := beq_eq_false_iff_ne.mpr c15
       have c15b1 : ((bt a0 0) != 48) = true := bne_iff_ne.mpr c15
       have H' := am H
       clear H
       have p14 : 0 ≤ (0 : Int) := (by omega)
       have q14 : 0 < a0.size := (by have : (0 : Int) < (a0.size : Int) := of_decide_eq_true (by (with_reducible assumption)); omega)
       have hx14 : ∀ h : 0 < a0.size, ((a0[0]'h).toNat : Int) = bt a0 0 := bt_at a0 0
       clear p14
       have qi14 : (0 < (a0.size : Int)) = True := eq_true (of_decide_eq_true (by (with_reducible assumption)))
       replace q14 := eq_true q14
       go_wp2
       go_meet
       case rel => exact ⟨_, (false), (by rfl), H', ⟨by have := HK1.out; omega⟩, ⟨by with_reducible exact HB.out⟩⟩
    case rest =>
     clear HC11
     try clear c6b0
     obtain ⟨kq, x24_10, rfl, HA, HJ10, HB⟩ := hcut
     cases kq with
     | zero => exact absurd HA.out (by simp [nat_Parse.j1])
     | succ kj10 =>
      have H := HA.out
      clear HA
      simp only [nat_Parse.j1] at H
      by_cases c16 : x24_10 = true
      ·
       subst c16
       rw [if_pos rfl] at H
       simp only [Option.some.injEq, Prod.mk.injEq] at H
       obtain ⟨rfl, rfl⟩ := H
       go_wp2
       go_ret2
       exact ⟨_, by rfl, by exact Kd.R_nil _ _ _ _ _, by with_reducible exact HB.out⟩
      ·
       replace c16 := Bool.eq_false_iff.mpr c16
       subst c16
       rw [if_neg (show ¬ (false = true) by decide)] at H
       by_cases c17 : (a0.size : Int) > 2000
       ·
        rw [if_pos c17] at H
        have c17b0 : decide (2000 < (a0.size : Int)) = true := decide_eq_true c17
        have c17b1 : decide (2000 < a0.size) = true := decide_eq_true (by omega)
        clear c17
        simp only [Option.some.injEq, Prod.mk.injEq] at H
        obtain ⟨rfl, rfl⟩ := H
        go_wp2
        go_ret2
        exact ⟨_, by rfl, by exact Kd.R_nil _ _ _ _ _, by with_reducible exact HB.out⟩
       ·
        rw [if_neg c17] at H
        have c17b0 : decide (2000 < (a0.size : Int)) = false := decide_eq_false c17
        have c17b1 : decide (2000 < a0.size) = false := decide_eq_false (by omega)
        clear c17
        have H' := am H
        clear H
        go_wp2
        go_loopg [6, 43] kj10 (fun kq v6 v43 w' => ∃ (x6_3 : List Int) (x43_3 : Int), v43 = .int .i64 x43_3 ∧ Aside0 (nat_Parse.l1 kq a0 x6_3 (a0.size : Int) x43_3 = some (r1, r2)) ∧ Aside0 (kq ≤ kj10) ∧ Aside0 (Kd.R (Kd.int .u32) 78 w' w.heap.size (fun _ => True) v6 x6_3) ∧ Aside0 (Below w.heap.size w w'))
        case atStart => exact ⟨(([] : List Int)), (0), (by rfl), H', ⟨Nat.le_refl _⟩, ⟨by exact Kd.R_nil _ _ _ _ _⟩, ⟨by with_reducible exact HB.out⟩⟩
        case round =>
         clear H'
         try clear c17b0
         try clear c17b1
         obtain ⟨x6_3, x43_3, rfl, HA, HK3, HO_6, HB⟩ := hrel
         cases gk with
         | zero => exact absurd HA.out (by simp [nat_Parse.l1])
         | succ k3 =>
          have H := HA.out
          clear HA
          simp only [nat_Parse.l1] at H
          by_cases c18 : x43_3 < (a0.size : Int)
          ·
           rw [if_pos c18] at H
           have c18b0 : decide (x43_3 < (a0.size : Int)) = true := decide_eq_true c18
           clear c18
           obtain ⟨c19, H⟩ := iteS H
           have c19b0 : decide (0 ≤ x43_3) = true := decide_eq_true c19
           clear c19
           obtain ⟨c20, H⟩ := iteS H
           have c20b0 : decide (x43_3 < (a0.size : Int)) = true := decide_eq_true c20
           clear c20
           have H' := am H
           clear H
           have p21 : 0 ≤ (x43_3 : Int) := of_decide_eq_true (by (with_reducible assumption))
           have q21 : x43_3 < (a0.size : Int) := of_decide_eq_true (by (with_reducible assumption))
           have hx21 := bt_at a0 x43_3
           replace p21 := eq_true p21
           replace q21 := eq_true q21
           obtain ⟨Ao22, co22, eo22⟩ := Kd.R_slice HO_6.out
           subst eo22
           go_wp2
           go_loopg [8, 53] k3 (fun kq v8 v53 w' => ∃ (x6_4 : List Int) (x8_4 : Int) (x53_4 : Int), v8 = .int .u64 x8_4 ∧ v53 = .int .i64 x53_4 ∧ Aside0 (nat_Parse.l2 kq a0 x6_4 x8_4 (a0.size : Int) x43_3 (x6_3.length : Int) x53_4 = some (r1, r2)) ∧ Aside0 (kq ≤ k3) ∧ Aside0 (Kd.R (Kd.int .u32) 78 w' w.heap.size (fun _ => True) (.slice Ao22 x6_3.length co22) x6_4) ∧ Aside0 (Below w.heap.size w w'))
           case atStart => exact ⟨(x6_3), (((bt a0 x43_3) - 48) % 256), (0), (by rfl), (by rfl), H', ⟨Nat.le_refl _⟩, ⟨by exact HO_6.out⟩, ⟨by with_reducible exact HB.out⟩⟩
           case round =>
            clear H'
            try clear c18b0
            try clear c19b0
            try clear c20b0
            try clear p21
            try clear q21
            try clear hx21
            obtain ⟨x6_4, x8_4, x53_4, rfl, rfl, HA, HK4, HO_6, HB⟩ := hrel
            have hl6_4 := (Kd.R_reads' HO_6.out).1
            rw [hl6_4] at HO_6
            (try simp only [hl6_4])
            cases gk with
            | zero => exact absurd HA.out (by simp [nat_Parse.l2])
            | succ k4 =>
             have H := HA.out
             clear HA
             simp only [nat_Parse.l2] at H
             by_cases c23 : x53_4 < (x6_3.length : Int)
             ·
              rw [if_pos c23] at H
              have c23b0 : decide (x53_4 < (x6_3.length : Int)) = true := decide_eq_true c23
              (try (have c23h0hl6_4 := c23b0; rw [hl6_4] at c23h0hl6_4))
              clear c23
              obtain ⟨c24, H⟩ := iteS H
              have c24b0 : decide (0 ≤ x53_4) = true := decide_eq_true c24
              clear c24
              obtain ⟨c25, H⟩ := iteS H
              have c25b0 : decide (x53_4 < (x6_4.length : Int)) = true := decide_eq_true c25
              clear c25
              obtain ⟨y959, hy959⟩ : ∃ y_ : List Int, y_ = (x6_4.set (x53_4 : Int).toNat ((IntKind.u64.wrap (x8_4 + (IntKind.u64.wrap ((IntKind.u64.wrap (rd x6_4 x53_4)) * 10)))) % 4294967296)) := ⟨_, rfl⟩
              replace H : (nat_Parse.l2 k4 a0 y959 ((IntKind.u64.wrap (x8_4 + (IntKind.u64.wrap ((IntKind.u64.wrap (rd x6_4 x53_4)) * 10)))) / 4294967296) (a0.size : Int) x43_3 (x6_3.length : Int) (wrap64 (x53_4 + 1))) = some (r1, r2) := by (rw [hy959]; with_reducible exact H)
              have Ny959 := am hy959
              clear hy959
              have H' := am H
              clear H
              have p958 : 0 ≤ (x53_4 : Int) := of_decide_eq_true (by (with_reducible assumption))
              have q958 : x53_4 < (x6_4.length : Int) := of_decide_eq_true (by (with_reducible assumption))
              obtain ⟨ad958, e958, hx958_0⟩ := Kd.at_int (Kd.R_reads' HO_6.out).2.2 x53_4 p958 q958
              cases e958
              replace p958 := eq_true p958
              replace q958 := eq_true q958
              have p26 : 0 ≤ (x53_4 : Int) := of_decide_eq_true (by (with_reducible assumption))
              have q26 : (x53_4 : Int) < ((x6_4.length : Int) : Int) := of_decide_eq_true (by (with_reducible assumption))
              obtain ⟨go26, co26, eo26, gb26, gl26, cl26, HG26⟩ := Kd.R_form HO_6.out (by omega)
              (cases eo26)
              have GB26 := am gb26
              have GG26 := am HG26
              clear gb26 gl26 HG26
              (simp only [add_plain] at hx958_0)
              obtain ⟨hx26_0, hf26_0⟩ := Kd.R_celln 0 HO_6.out (x53_4 : Int) p26 q26
              replace p26 := eq_true p26
              replace q26 := eq_true q26
              have HP27 := Kd.R_putg HO_6.out (x53_4 : Int) ((IntKind.u64.wrap (x8_4 + (IntKind.u64.wrap ((IntKind.u64.wrap (rd x6_4 x53_4)) * 10)))) % 4294967296)
              go_wp2_with (((with_reducible refine gate_store (t := 78) (p := 68) rfl ?_); refine store_event (t := 78) (p := 68) (v := ?vo_w28) (w1 := (wr.setCell ⟨go26, (x53_4 : Int).toNat, none⟩ (.int .u32 ((IntKind.u64.wrap (x8_4 + (IntKind.u64.wrap ((IntKind.u64.wrap (rd x6_4 x53_4)) * 10)))) % 4294967296)))) ?hg ?ho ?hn ?hr ?_; (case ho => rfl); (case hg => rfl); (case hn => rfl); (case hr => (go_simp; done)); intro w28 hw; have hg : wr.grownBy w28 (some go26) := (by rw [hw]; exact HP27.2); have hp_ : Kd.R (Kd.int .u32) 78 w28 w.heap.size (fun _ => True) (.slice (some ⟨go26, 0, none⟩) x6_4.length co22) y959 := (by rw [hw, Ny959.out]; exact HP27.1); clear HP27; replace HO_6 := am (hp_); replace HB := am ((by rw [hw]; exact below_set (HB.out) GB26.out : Below w.heap.size w w28)); clear hg hw hp_))
              (try simp only [← hl6_4])
              go_roundg k4
              case measure => have := HK1.out; have := HJ10.out; have := HK3.out; have := HK4.out; omega
              case rel => exact ⟨(y959), ((IntKind.u64.wrap (x8_4 + (IntKind.u64.wrap ((IntKind.u64.wrap (rd x6_4 x53_4)) * 10)))) / 4294967296), (wrap64 (x53_4 + 1)), (by rfl), (by rfl), H', ⟨by have := HK1.out; have := HJ10.out; have := HK3.out; have := HK4.out; omega⟩, ⟨by (try simp only [hl6_4]); exact HO_6.out⟩, ⟨by with_reducible exact HB.out⟩⟩
             ·
              rw [if_neg c23] at H
              have c23b0 : decide (x53_4 < (x6_3.length : Int)) = false := decide_eq_false c23
              (try (have c23h0hl6_4 := c23b0; rw [hl6_4] at c23h0hl6_4))
              clear c23
              by_cases c29 : x8_4 > 0
              ·
               rw [if_pos c29] at H
               have c29b0 : decide (0 < x8_4) = true := decide_eq_true c29
               clear c29
               obtain ⟨c30, H⟩ := iteS H
               have LMc30 := am c30
               clear c30
               obtain ⟨y960, hy960⟩ : ∃ y_ : List Int, y_ = (x6_4 ++ [(x8_4) % 4294967296]) := ⟨_, rfl⟩
               replace H : (nat_Parse.l1 k4 a0 y960 (a0.size : Int) (wrap64 (x43_3 + 1))) = some (r1, r2) := by (rw [hy960]; with_reducible exact H)
               have Ny960 := am hy960
               clear hy960
               have H' := am H
               clear H
               go_wp2_with (((with_reducible refine gate_builtin (b := .append) (xs := #[.tmp 74, .tmp 77]) rfl ?_); (try (refine gate_guard (by rfl) ?_; dsimp only)); at_builtin; refine Kd.R_append (Kd.int .u32) (w0 := w) w.heap.size rfl (.tmp 74) (.tmp 77) 23 78 (.int .u32 0) 4 rfl Try.underlying23 info78 rfl (by decide) (by omega) (.slice Ao22 x6_4.length co22) x6_4 ((x8_4) % 4294967296) [.int .u32 ((x8_4) % 4294967296)] (fun _ => True) (fun _ => False) rfl rfl ?aP (fun _ hk => hk.elim) ?aF ?aO ?aB ?aS ?aL ?_; (case aP => exact rfl); (case aB => exact HB.out); (case aF => exact (fun _ _ => trivial)); (case aO => exact HO_6.out); (case aS => exact (below_size HB.out)); (case aL => have := LMc30.out; omega); intro v961 w31 ho hb hg hat; rw [← Ny960.out] at ho; replace HB := am (hb); have HO962 := am ho; clear HO_6; clear ho hb hg hat))
               (try simp only [← hl6_4])
               go_roundg k4
               case measure => have := HK1.out; have := HJ10.out; have := HK3.out; have := HK4.out; omega
               case rel => exact ⟨(y960), (wrap64 (x43_3 + 1)), (by rfl), H', ⟨by have := HK1.out; have := HJ10.out; have := HK3.out; have := HK4.out; omega⟩, ⟨by exact HO962.out⟩, ⟨by with_reducible exact HB.out⟩⟩
              ·
               rw [if_neg c29] at H
               have c29b0 : decide (0 < x8_4) = false := decide_eq_false c29
               clear c29
               have H' := am H
               clear H
               go_wp2
               (try simp only [← hl6_4])
               go_roundg k4
               case measure => have := HK1.out; have := HJ10.out; have := HK3.out; have := HK4.out; omega
               case rel => exact ⟨(x6_4), (wrap64 (x43_3 + 1)), (by rfl), H', ⟨by have := HK1.out; have := HJ10.out; have := HK3.out; have := HK4.out; omega⟩, ⟨by (try simp only [hl6_4]); exact HO_6.out⟩, ⟨by with_reducible exact HB.out⟩⟩
          ·
           rw [if_neg c18] at H
           have c18b0 : decide (x43_3 < (a0.size : Int)) = false := decide_eq_false c18
           clear c18
           simp only [Option.some.injEq, Prod.mk.injEq] at H
           obtain ⟨rfl, rfl⟩ := H
           go_wp2
           go_ret2
           exact ⟨_, by rfl, by exact HO_6.out, by with_reducible exact HB.out⟩

end Go.Proofs.Ytmfmojldebhboaa.ZWhole
