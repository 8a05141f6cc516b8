-- printed by zprint.py, a program of this session's
import Derived.Test.YtmfmojldebhboaaZWhole0
import Derived.Test.YtmfmojldebhboaaZWholegRTrim
namespace Go.Proofs.Ytmfmojldebhboaa.ZWhole
open Go.RowKit Go.Proofs.YtmfmojldebhboaaW.PrintWords Go.Proofs.YtmfmojldebhboaaW.PrintLast Go.Proofs.YtmfmojldebhboaaW.PrintMore
set_option linter.unusedVariables false
set_option linter.unusedSimpArgs false

/-! ### zelligeref03_Show: function 63 -/
mutual
def zelligeref03_Show.l0 : Nat → List Int → ByteArray → Option (ByteArray)
 | 0, _, _ => none
 | k + 1, x3, x4 => if (x3.length : Int) > 0 then (zelligeref03_Show.j1 k x3 x4 true) else (zelligeref03_Show.j1 k x3 x4 (x4.toList == ([] : List UInt8)))
def zelligeref03_Show.j1 : Nat → List Int → ByteArray → Bool → Option (ByteArray)
 | 0, _, _, _ => none
 | k + 1, x3, x4, x16 => if x16 = true then (zelligeref03_Show.l1 k x3 x4 0 (wrap64 ((x3.length : Int) - 1))) else (some x4)
def zelligeref03_Show.l1 : Nat → List Int → ByteArray → Int → Int → Option (ByteArray)
 | 0, _, _, _, _ => none
 | k + 1, x3, x4, x5, x6 => if x6 ≥ 0 then (if 0 ≤ x6 then (if x6 < (x3.length : Int) then (zelligeref03_Show.l1 k (x3.set (x6 : Int).toNat (wrap64 (Int.tdiv (wrap64 ((wrap64 (x5 * 65536)) + (rd x3 x6))) 10))) x4 (Int.tmod (wrap64 ((wrap64 (x5 * 65536)) + (rd x3 x6))) 10) (wrap64 (x6 - 1))) else (none)) else (none)) else ((zelligeref03_Trim_own.f k x3).bind fun t986 => (if 0 ≤ x5 then (if x5 ≤ (wrap64 (x5 + 1)) then (if (wrap64 (x5 + 1)) ≤ 10 then (if ((⟨#[48, 49, 50, 51, 52, 53, 54, 55, 56, 57]⟩ : ByteArray).extract (x5 : Int).toNat ((wrap64 (x5 + 1)) : Int).toNat).size + x4.size ≤ 9223372036854775807 then (zelligeref03_Show.l0 k t986 (((⟨#[48, 49, 50, 51, 52, 53, 54, 55, 56, 57]⟩ : ByteArray).extract (x5 : Int).toNat ((wrap64 (x5 + 1)) : Int).toNat) ++ x4)) else (none)) else (none)) else (none)) else (none)))
end
def zelligeref03_Show.f (k : Nat) (l0 : List Int) : Option (ByteArray) := (some (([] : List Int) : List Int)).bind fun y978 => (if y978.length + l0.length < 17592186044416 then (zelligeref03_Show.l0 k (y978 ++ l0) (⟨#[]⟩ : ByteArray)) else (none))
theorem zelligeref03_Show.mono_l : ∀ k, (∀ y0 y1, LeO (zelligeref03_Show.l0 k y0 y1) (zelligeref03_Show.l0 (k + 1) y0 y1)) ∧ (∀ y0 y1 y2, LeO (zelligeref03_Show.j1 k y0 y1 y2) (zelligeref03_Show.j1 (k + 1) y0 y1 y2)) ∧ (∀ y0 y1 y2 y3, LeO (zelligeref03_Show.l1 k y0 y1 y2 y3) (zelligeref03_Show.l1 (k + 1) y0 y1 y2 y3))
 | 0 => ⟨fun _ _ r h => by simp [zelligeref03_Show.l0] at h, fun _ _ _ r h => by simp [zelligeref03_Show.j1] at h, fun _ _ _ _ r h => by simp [zelligeref03_Show.l1] at h⟩
 | k + 1 => by
  obtain ⟨ih0, ih1, ih2⟩ := zelligeref03_Show.mono_l k
  refine ⟨?_, ?_, ?_⟩
  ·
   intro y0 y1
   unfold zelligeref03_Show.l0
   repeat' first
   | (with_reducible exact ih1 _ _ _)
   | (with_reducible refine LeO.ite ?_ ?_)
  ·
   intro y0 y1 y2
   unfold zelligeref03_Show.j1
   repeat' first
   | (with_reducible exact ih2 _ _ _ _)
   | (with_reducible exact LeO.refl _)
   | (with_reducible refine LeO.ite ?_ ?_)
  ·
   intro y0 y1 y2 y3
   unfold zelligeref03_Show.l1
   repeat' first
   | (with_reducible exact ih0 _ _)
   | (with_reducible exact ih2 _ _ _ _)
   | (with_reducible exact zelligeref03_Trim_own.mono _ _)
   | (with_reducible exact LeO.refl _)
   | (with_reducible refine LeO.ite ?_ ?_)
   | (with_reducible refine LeO.bind ?_ (fun _ => ?_))
theorem zelligeref03_Show.mono : ∀ a0 k, LeO (zelligeref03_Show.f k a0) (zelligeref03_Show.f (k + 1) a0) := by
 intro a0 k
 obtain ⟨ih0, ih1, ih2⟩ := zelligeref03_Show.mono_l k
 unfold zelligeref03_Show.f
 repeat' first
   | (with_reducible exact ih0 _ _)
   | (with_reducible exact LeO.refl _)
   | (with_reducible refine LeO.ite ?_ ?_)
   | (with_reducible refine LeO.bind ?_ (fun _ => ?_))
set_option maxHeartbeats 8000000 in
set_option maxRecDepth 100000 in
theorem zelligeref03_Show.calls (k : Nat) (A0 : Option Addr) (c0 : Nat) (l0 : List Int) (r : ByteArray) (w : World) (hr0 : Kd.C (Kd.int .i64) w A0 l0.length l0) (hc0 : l0.length ≤ c0) (h : zelligeref03_Show.f k l0 = some r) :
  Calls Try.prog 63 #[.slice A0 l0.length c0] w fun e w' => e = .returned (.string r) ∧ Below w.heap.size w w' := by
 have HR0 := am hr0
 have HC0 := am hc0
 clear hr0 hc0
 have HB := am (Below.refl w.heap.size w)
 have H : ((some (([] : List Int) : List Int)).bind fun y978 => (if y978.length + l0.length < 17592186044416 then (zelligeref03_Show.l0 k (y978 ++ l0) (⟨#[]⟩ : ByteArray)) else (none))) = some r := h
 clear h
 obtain ⟨y978, hy978⟩ : ∃ y_ : List Int, y_ = (([] : List Int)) := ⟨_, rfl⟩
 replace H : (if y978.length + l0.length < 17592186044416 then (zelligeref03_Show.l0 k (y978 ++ l0) (⟨#[]⟩ : ByteArray)) else (none)) = some r := by (have H2_ := (Option.bind_some _ _).symm.trans H; rw [hy978]; with_reducible exact H2_)
 have Ny978 := am hy978
 clear hy978
 obtain ⟨c2, H⟩ := iteS H
 have LMc2 := am c2
 clear c2
 obtain ⟨y981, hy981⟩ : ∃ y_ : List Int, y_ = (y978 ++ l0) := ⟨_, rfl⟩
 replace H : (zelligeref03_Show.l0 k y981 (⟨#[]⟩ : ByteArray)) = some r := by (rw [hy981]; with_reducible exact H)
 have Ny981 := am hy981
 clear hy981
 have H' := am H
 clear H
 go_enter Try.func63, Try.ntmps63
 go_wp2_with (first | ((with_reducible refine gate_dst (N := 7) rfl ?_); refine Kd.R_lit (Kd.int .i64) _ 3 ?hg (N := 7) ?hd (xs := ([] : List Int)) (inner := []) (ok := fun _ => True) (okp := fun _ => True) ?hr ?hp (fun _ hk => hk) trivial (Below.refl _ _) (Nat.le_refl _) (by simp) ?_; (case hd => rfl); (case hg => rfl); (case hr => (go_simp; done)); (case hp => exact (Reps.none _ _)); intro v979 w3 ho4 hb hg_ hnew_; clear hg_ hnew_; (rw [← Ny978.out] at ho4); have HO980 := am (Kd.R_lower ho4 (below_size HB.out)); replace HB := am (below_step HB.out hb); clear hb ho4) | ((with_reducible refine gate_builtin (b := .append) (xs := #[.tmp 7, .tmp 8]) rfl ?_); at_builtin; refine Kd.R_append_rows (Kd.int .i64) (w0 := w) w.heap.size rfl (.tmp 7) (.tmp 8) 31 3 (.int .i64 0) 8 rfl Try.underlying31 info3 rfl (by decide) (by omega) v979 y978 l0 _ _ _ (fun _ => True) (fun _ => False) rfl rfl ?aO ?aR (fun _ _ h => h) (fun _ h => h.elim) ?aF ?aB ?aS ?aL ?_; (case aR => repeat (exact (Kd.C_below HR0.out HB.out))); (case aB => exact HB.out); (case aF => exact (fun _ _ => trivial)); (case aO => exact HO980.out); (case aS => exact (below_size HB.out)); (case aL => have := LMc2.out; omega); intro v982 w5 ho hb hg hat; rw [← Ny981.out] at ho; replace HB := am (hb); have HO983 := am ho; clear HO980; clear ho hb hg hat))
 go_loopg [3, 4] k (fun kq v3 v4 w' => ∃ (x3_1 : List Int) (x4_1 : ByteArray), v4 = .string x4_1 ∧ Aside0 (zelligeref03_Show.l0 kq x3_1 x4_1 = some r) ∧ Aside0 (kq ≤ k) ∧ Aside0 (Kd.R (Kd.int .i64) 3 w' w.heap.size (fun _ => True) v3 x3_1) ∧ Aside0 (Below w.heap.size w w'))
 case atStart => exact ⟨(y981), ((⟨#[]⟩ : ByteArray)), (by rfl), H', ⟨Nat.le_refl _⟩, ⟨by exact HO983.out⟩, ⟨by with_reducible exact HB.out⟩⟩
 case round =>
  clear H'
  obtain ⟨x3_1, x4_1, rfl, HA, HK1, HO_3, HB⟩ := hrel
  cases gk with
  | zero => exact absurd HA.out (by simp [zelligeref03_Show.l0])
  | succ k1 =>
   have H := HA.out
   clear HA
   simp only [zelligeref03_Show.l0] at H
   have HC6 := am H
   clear H
   go_upto_region 2 with (fail)
   go_cut [16] (fun v16 wc => ∃ (kq : Nat) (x16_5 : Bool), v16 = .bool x16_5 ∧ Aside0 (zelligeref03_Show.j1 kq x3_1 x4_1 x16_5 = some r) ∧ Aside0 (kq ≤ k1) ∧ Aside0 (Kd.R (Kd.int .i64) 3 wc w.heap.size (fun _ => True) u3 x3_1) ∧ Aside0 (Below w.heap.size w wc))
   case first =>
    have H := HC6.out
    clear HC6
    by_cases c7 : (x3_1.length : Int) > 0
    ·
     rw [if_pos c7] at H
     have c7b0 : decide (0 < (x3_1.length : Int)) = true := decide_eq_true c7
     have c7b1 : decide (0 < x3_1.length) = true := decide_eq_true (by omega)
     clear c7
     (skip)
     have H' := am H
     clear H
     obtain ⟨Ao8, co8, eo8⟩ := Kd.R_slice HO_3.out
     subst eo8
     go_wp2
     go_meet
     case rel => exact ⟨_, (true), (by rfl), H', ⟨by have := HK1.out; omega⟩, ⟨by exact HO_3.out⟩, ⟨by with_reducible exact HB.out⟩⟩
    ·
     rw [if_neg c7] at H
     have c7b0 : decide (0 < (x3_1.length : Int)) = false := decide_eq_false c7
     have c7b1 : decide (0 < x3_1.length) = false := decide_eq_false (by omega)
     clear c7
     (skip)
     have H' := am H
     clear H
     obtain ⟨Ao9, co9, eo9⟩ := Kd.R_slice HO_3.out
     subst eo9
     go_wp2
     go_meet
     case rel => exact ⟨_, ((x4_1.toList == ([] : List UInt8))), (by (simp; done)), H', ⟨by have := HK1.out; omega⟩, ⟨by exact HO_3.out⟩, ⟨by with_reducible exact HB.out⟩⟩
   case rest =>
    clear HC6
    obtain ⟨kq, x16_5, rfl, HA, HJ5, HO_3, HB⟩ := hcut
    cases kq with
    | zero => exact absurd HA.out (by simp [zelligeref03_Show.j1])
    | succ kj5 =>
     have H := HA.out
     clear HA
     simp only [zelligeref03_Show.j1] at H
     by_cases c10 : x16_5 = true
     ·
      subst c10
      rw [if_pos rfl] at H
      have H' := am H
      clear H
      obtain ⟨Ao11, co11, eo11⟩ := Kd.R_slice HO_3.out
      subst eo11
      go_wp2
      go_loopg [5, 6] kj5 (fun kq v5 v6 w' => ∃ (x3_3 : List Int) (x5_3 : Int) (x6_3 : Int), v5 = .int .i64 x5_3 ∧ v6 = .int .i64 x6_3 ∧ Aside0 (zelligeref03_Show.l1 kq x3_3 x4_1 x5_3 x6_3 = some r) ∧ Aside0 (kq ≤ kj5) ∧ Aside0 (Kd.R (Kd.int .i64) 3 w' w.heap.size (fun _ => True) (.slice Ao11 x3_1.length co11) x3_3) ∧ Aside0 (Below w.heap.size w w'))
      case atStart => exact ⟨(x3_1), (0), (wrap64 ((x3_1.length : Int) - 1)), (by rfl), (by rfl), H', ⟨Nat.le_refl _⟩, ⟨by exact HO_3.out⟩, ⟨by with_reducible exact HB.out⟩⟩
      case round =>
       clear H'
       obtain ⟨x3_3, x5_3, x6_3, rfl, rfl, HA, HK3, HO_3, HB⟩ := hrel
       have hl3_3 := (Kd.R_reads' HO_3.out).1
       rw [hl3_3] at HO_3
       (try simp only [hl3_3])
       cases gk with
       | zero => exact absurd HA.out (by simp [zelligeref03_Show.l1])
       | succ k3 =>
        have H := HA.out
        clear HA
        simp only [zelligeref03_Show.l1] at H
        by_cases c12 : x6_3 ≥ 0
        ·
         rw [if_pos c12] at H
         have c12b0 : decide (0 ≤ x6_3) = true := decide_eq_true c12
         clear c12
         obtain ⟨c13, H⟩ := iteS H
         have c13b0 : decide (0 ≤ x6_3) = true := decide_eq_true c13
         clear c13
         obtain ⟨c14, H⟩ := iteS H
         have c14b0 : decide (x6_3 < (x3_3.length : Int)) = true := decide_eq_true c14
         clear c14
         obtain ⟨y985, hy985⟩ : ∃ y_ : List Int, y_ = (x3_3.set (x6_3 : Int).toNat (wrap64 (Int.tdiv (wrap64 ((wrap64 (x5_3 * 65536)) + (rd x3_3 x6_3))) 10))) := ⟨_, rfl⟩
         replace H : (zelligeref03_Show.l1 k3 y985 x4_1 (Int.tmod (wrap64 ((wrap64 (x5_3 * 65536)) + (rd x3_3 x6_3))) 10) (wrap64 (x6_3 - 1))) = some r := by (rw [hy985]; with_reducible exact H)
         have Ny985 := am hy985
         clear hy985
         have H' := am H
         clear H
         have p984 : 0 ≤ (x6_3 : Int) := of_decide_eq_true (by (with_reducible assumption))
         have q984 : x6_3 < (x3_3.length : Int) := of_decide_eq_true (by (with_reducible assumption))
         obtain ⟨ad984, e984, hx984_0⟩ := Kd.at_int (Kd.R_reads' HO_3.out).2.2 x6_3 p984 q984
         cases e984
         replace p984 := eq_true p984
         replace q984 := eq_true q984
         have p15 : 0 ≤ (x6_3 : Int) := of_decide_eq_true (by (with_reducible assumption))
         have q15 : (x6_3 : Int) < ((x3_3.length : Int) : Int) := of_decide_eq_true (by (with_reducible assumption))
         obtain ⟨go15, co15, eo15, gb15, gl15, cl15, HG15⟩ := Kd.R_form HO_3.out (by omega)
         (cases eo15)
         have GB15 := am gb15
         have GG15 := am HG15
         clear gb15 gl15 HG15
         (simp only [add_plain] at hx984_0)
         obtain ⟨hx15_0, hf15_0⟩ := Kd.R_celln 0 HO_3.out (x6_3 : Int) p15 q15
         replace p15 := eq_true p15
         replace q15 := eq_true q15
         have HP16 := Kd.R_putg HO_3.out (x6_3 : Int) (wrap64 (Int.tdiv (wrap64 ((wrap64 (x5_3 * 65536)) + (rd x3_3 x6_3))) 10))
         go_wp2_with (((with_reducible refine gate_store (t := 3) (p := 37) rfl ?_); refine store_event (t := 3) (p := 37) (v := ?vo_w17) (w1 := (wr.setCell ⟨go15, (x6_3 : Int).toNat, none⟩ (.int .i64 (wrap64 (Int.tdiv (wrap64 ((wrap64 (x5_3 * 65536)) + (rd x3_3 x6_3))) 10))))) ?hg ?ho ?hn ?hr ?_; (case ho => rfl); (case hg => rfl); (case hn => rfl); (case hr => (go_simp; done)); intro w17 hw; have hg : wr.grownBy w17 (some go15) := (by rw [hw]; exact HP16.2); have hp_ : Kd.R (Kd.int .i64) 3 w17 w.heap.size (fun _ => True) (.slice (some ⟨go15, 0, none⟩) x3_3.length co11) y985 := (by rw [hw, Ny985.out]; exact HP16.1); clear HP16; replace HO_3 := am (hp_); replace HB := am ((by rw [hw]; exact below_set (HB.out) GB15.out : Below w.heap.size w w17)); clear hg hw hp_))
         (try simp only [← hl3_3])
         go_roundg k3
         case measure => have := HK1.out; have := HJ5.out; have := HK3.out; omega
         case rel => exact ⟨(y985), (Int.tmod (wrap64 ((wrap64 (x5_3 * 65536)) + (rd x3_3 x6_3))) 10), (wrap64 (x6_3 - 1)), (by rfl), (by rfl), H', ⟨by have := HK1.out; have := HJ5.out; have := HK3.out; omega⟩, ⟨by (try simp only [hl3_3]); exact HO_3.out⟩, ⟨by with_reducible exact HB.out⟩⟩
        ·
         rw [if_neg c12] at H
         have c12b0 : decide (0 ≤ x6_3) = false := decide_eq_false c12
         clear c12
         obtain ⟨t986, A18, H⟩ := bindE H
         obtain ⟨c19, H⟩ := iteS H
         have c19b0 := eq_true c19
         have c19b1 : decide (0 ≤ x5_3) = true := decide_eq_true c19
         clear c19
         obtain ⟨c20, H⟩ := iteS H
         have c20b0 := eq_true c20
         have c20b1 : decide (x5_3 ≤ (wrap64 (x5_3 + 1))) = true := decide_eq_true c20
         obtain ⟨c21, H⟩ := iteS H
         have c21b0 := eq_true c21
         have c21b1 : decide ((wrap64 (x5_3 + 1)) ≤ 10) = true := decide_eq_true c21
         obtain ⟨c22, H⟩ := iteS H
         have c22b0 := eq_true c22
         have c22b1 : decide (((⟨#[48, 49, 50, 51, 52, 53, 54, 55, 56, 57]⟩ : ByteArray).extract (x5_3 : Int).toNat ((wrap64 (x5_3 + 1)) : Int).toNat).size + x4_1.size ≤ 9223372036854775807) = true := decide_eq_true c22
         try have c22b2 : (9223372036854775807 < ((⟨#[48, 49, 50, 51, 52, 53, 54, 55, 56, 57]⟩ : ByteArray).extract (x5_3 : Int).toNat ((wrap64 (x5_3 + 1)) : Int).toNat).size + x4_1.size) = False := eq_false (Nat.not_lt.2 c22)
         have H' := am H
         clear H
         go_wp2_with (((with_reducible refine gate_callee (f := 64) rfl ?_); refine goesL_ (some 39) rfl rfl Try.func64 (by kernel_rfl) rfl #[.slice Ao11 x3_3.length co11] rfl (by (try simp only [List.map_toArray, List.map_cons, List.map_nil]); rfl) ?_; (with_reducible refine (zelligeref03_Trim_own.calls k3 (fun k_ => some k_ = (.slice Ao11 x3_3.length co11 : Value).ownBlock) (.slice Ao11 x3_3.length co11) x3_3 t986 w _ ?side1 ?side2 A18.out).mono ?_); (case side1 => repeat ((with_reducible exact HB.out))); (case side2 => exact Kd.R_tight rfl HO_3.out); rintro e w23 ⟨v987, rfl, ho0, hb, hkp⟩; refine ⟨_, rfl, ?_⟩; have HO988 := am (Kd.R_mono (ok' := fun k_ => True) ho0 (fun k_ hk_ => trivial)); replace HB := am (hb); clear HO_3; (try clear hb); (try clear hkp); (try clear ho0)))
         (try simp only [← hl3_3])
         go_roundg k3
         case measure => have := HK1.out; have := HJ5.out; have := HK3.out; omega
         case rel => exact ⟨(t986), (((⟨#[48, 49, 50, 51, 52, 53, 54, 55, 56, 57]⟩ : ByteArray).extract (x5_3 : Int).toNat ((wrap64 (x5_3 + 1)) : Int).toNat) ++ x4_1), (by rfl), H', ⟨by have := HK1.out; have := HJ5.out; have := HK3.out; omega⟩, ⟨by exact HO988.out⟩, ⟨by with_reducible exact HB.out⟩⟩
     ·
      replace c10 := Bool.eq_false_iff.mpr c10
      subst c10
      rw [if_neg (show ¬ (false = true) by decide)] at H
      obtain rfl := Option.some.inj H
      go_wp2
      go_ret
      exact ⟨by rfl, by with_reducible exact HB.out⟩

end Go.Proofs.Ytmfmojldebhboaa.ZWhole
