-- printed by zprint.py, a program of this session's
import Derived.Test.YtmfmojldebhboaaZWhole0
import Derived.Test.YtmfmojldebhboaaZWholegLive4
import Derived.Test.YtmfmojldebhboaaZWholegQOf
import Derived.Test.YtmfmojldebhboaaZWholegRParse
import Derived.Test.YtmfmojldebhboaaZWholegRTrim
import Derived.Test.YtmfmojldebhboaaZWholegWParse
namespace Go.Proofs.Ytmfmojldebhboaa.ZWhole
open Go.RowKit Go.Proofs.YtmfmojldebhboaaW.PrintWords Go.Proofs.YtmfmojldebhboaaW.PrintLast Go.Proofs.YtmfmojldebhboaaW.PrintMore
set_option linter.unusedVariables false
set_option linter.unusedSimpArgs false

/-! ### zelligelaw04_WholeParses: function 8 -/
mutual
def zelligelaw04_WholeParses.j0 : Nat → ByteArray → Option (Bool)
 | 0, _ => none
 | k + 1, x0 => (whole_Parse.f k x0).bind fun bt1045 => (if (x0.size : Int) > 0 then (if 0 < (x0.size : Int) then (zelligelaw04_WholeParses.j1 k x0 bt1045.2.2 ((bt x0 0) == 45) bt1045.1 bt1045.2.1) else (none)) else (zelligelaw04_WholeParses.j1 k x0 bt1045.2.2 false bt1045.1 bt1045.2.1))
def zelligelaw04_WholeParses.j1 : Nat → ByteArray → Int → Bool → Bool → List Int → Option (Bool)
 | 0, _, _, _, _, _ => none
 | k + 1, x0, x4, x5, x1051000, x1051001 => if x5 = true then (if 1 ≤ (x0.size : Int) then (zelligelaw04_WholeParses.j2 k x4 x5 (x0.extract 1 x0.size) x1051000 x1051001) else (none)) else (zelligelaw04_WholeParses.j2 k x4 x5 x0 x1051000 x1051001)
def zelligelaw04_WholeParses.j2 : Nat → Int → Bool → ByteArray → Bool → List Int → Option (Bool)
 | 0, _, _, _, _, _ => none
 | k + 1, x4, x5, x6, x1051000, x1051001 => (zelligeref03_Parse.f k x6).bind fun bt1051 => (if bt1051.2 = 0 then (if x5 = true then (zelligelaw04_WholeParses.j3 k x4 x5 bt1051.1 bt1051.2 ((bt1051.1.length : Int) == 0) x1051000 x1051001) else (zelligelaw04_WholeParses.j3 k x4 x5 bt1051.1 bt1051.2 false x1051000 x1051001)) else (zelligelaw04_WholeParses.j3 k x4 x5 bt1051.1 bt1051.2 false x1051000 x1051001))
def zelligelaw04_WholeParses.j3 : Nat → Int → Bool → List Int → Int → Bool → Bool → List Int → Option (Bool)
 | 0, _, _, _, _, _, _, _ => none
 | k + 1, x4, x5, x7, x8, x45, x1051000, x1051001 => if x45 = true then (zelligelaw04_WholeParses.j4 k x4 x5 x7 4 x1051000 x1051001) else (zelligelaw04_WholeParses.j4 k x4 x5 x7 x8 x1051000 x1051001)
def zelligelaw04_WholeParses.j4 : Nat → Int → Bool → List Int → Int → Bool → List Int → Option (Bool)
 | 0, _, _, _, _, _, _ => none
 | k + 1, x4, x5, x7, x8, x1051000, x1051001 => if x8 = 0 then ((zelligeref03_Same.f k x1051001 x7).bind fun t1055 => (if t1055 = true then (if (x1051000 == x5) = true then (if x4 = 0 then ((zelligelaw04_lives.f k).bind fun t1056 => (some t1056)) else (some false)) else (some false)) else (some false))) else ((zelligeref04_Same.f k x1051000 x1051001 0 ([] : List Int)).bind fun t1057 => (if t1057 = true then (if x4 = x8 then ((zelligelaw04_lives.f k).bind fun t1058 => (some t1058)) else (some false)) else (some false)))
end
def zelligelaw04_WholeParses.f (k : Nat) (a0 : ByteArray) : Option (Bool) := if (a0.size : Int) > 300 then (if 0 ≤ 300 then (if 300 ≤ (a0.size : Int) then (zelligelaw04_WholeParses.j0 k (a0.extract 0 300)) else (none)) else (none)) else (zelligelaw04_WholeParses.j0 k a0)
theorem zelligelaw04_WholeParses.mono_l : ∀ k, (∀ y0, LeO (zelligelaw04_WholeParses.j0 k y0) (zelligelaw04_WholeParses.j0 (k + 1) y0)) ∧ (∀ y0 y1 y2 y3 y4, LeO (zelligelaw04_WholeParses.j1 k y0 y1 y2 y3 y4) (zelligelaw04_WholeParses.j1 (k + 1) y0 y1 y2 y3 y4)) ∧ (∀ y0 y1 y2 y3 y4, LeO (zelligelaw04_WholeParses.j2 k y0 y1 y2 y3 y4) (zelligelaw04_WholeParses.j2 (k + 1) y0 y1 y2 y3 y4)) ∧ (∀ y0 y1 y2 y3 y4 y5 y6, LeO (zelligelaw04_WholeParses.j3 k y0 y1 y2 y3 y4 y5 y6) (zelligelaw04_WholeParses.j3 (k + 1) y0 y1 y2 y3 y4 y5 y6)) ∧ (∀ y0 y1 y2 y3 y4 y5, LeO (zelligelaw04_WholeParses.j4 k y0 y1 y2 y3 y4 y5) (zelligelaw04_WholeParses.j4 (k + 1) y0 y1 y2 y3 y4 y5))
 | 0 => ⟨fun _ r h => by simp [zelligelaw04_WholeParses.j0] at h, fun _ _ _ _ _ r h => by simp [zelligelaw04_WholeParses.j1] at h, fun _ _ _ _ _ r h => by simp [zelligelaw04_WholeParses.j2] at h, fun _ _ _ _ _ _ _ r h => by simp [zelligelaw04_WholeParses.j3] at h, fun _ _ _ _ _ _ r h => by simp [zelligelaw04_WholeParses.j4] at h⟩
 | k + 1 => by
  obtain ⟨ih0, ih1, ih2, ih3, ih4⟩ := zelligelaw04_WholeParses.mono_l k
  refine ⟨?_, ?_, ?_, ?_, ?_⟩
  ·
   intro y0
   unfold zelligelaw04_WholeParses.j0
   repeat' first
   | (with_reducible exact ih1 _ _ _ _ _)
   | (with_reducible exact whole_Parse.mono _ _)
   | (with_reducible exact LeO.refl _)
   | (with_reducible refine LeO.ite ?_ ?_)
   | (with_reducible refine LeO.bind ?_ (fun _ => ?_))
  ·
   intro y0 y1 y2 y3 y4
   unfold zelligelaw04_WholeParses.j1
   repeat' first
   | (with_reducible exact ih2 _ _ _ _ _)
   | (with_reducible exact LeO.refl _)
   | (with_reducible refine LeO.ite ?_ ?_)
  ·
   intro y0 y1 y2 y3 y4
   unfold zelligelaw04_WholeParses.j2
   repeat' first
   | (with_reducible exact ih3 _ _ _ _ _ _ _)
   | (with_reducible exact zelligeref03_Parse.mono _ _)
   | (with_reducible refine LeO.ite ?_ ?_)
   | (with_reducible refine LeO.bind ?_ (fun _ => ?_))
  ·
   intro y0 y1 y2 y3 y4 y5 y6
   unfold zelligelaw04_WholeParses.j3
   repeat' first
   | (with_reducible exact ih4 _ _ _ _ _ _)
   | (with_reducible refine LeO.ite ?_ ?_)
  ·
   intro y0 y1 y2 y3 y4 y5
   unfold zelligelaw04_WholeParses.j4
   repeat' first
   | (with_reducible exact zelligelaw04_lives.mono _)
   | (with_reducible exact zelligeref03_Same.mono _ _ _)
   | (with_reducible exact zelligeref04_Same.mono _ _ _ _ _)
   | (with_reducible exact LeO.refl _)
   | (with_reducible refine LeO.ite ?_ ?_)
   | (with_reducible refine LeO.bind ?_ (fun _ => ?_))
theorem zelligelaw04_WholeParses.mono : ∀ a0 k, LeO (zelligelaw04_WholeParses.f k a0) (zelligelaw04_WholeParses.f (k + 1) a0) := by
 intro a0 k
 obtain ⟨ih0, ih1, ih2, ih3, ih4⟩ := zelligelaw04_WholeParses.mono_l k
 unfold zelligelaw04_WholeParses.f
 repeat' first
   | (with_reducible exact ih0 _)
   | (with_reducible exact LeO.refl _)
   | (with_reducible refine LeO.ite ?_ ?_)
set_option maxHeartbeats 8000000 in
set_option maxRecDepth 100000 in
theorem zelligelaw04_WholeParses.calls (k : Nat) (a0 : ByteArray) (r : Bool) (w : World) (h : zelligelaw04_WholeParses.f k a0 = some r) (hT : Aside0 (r = true)) :
  Calls Try.prog 8 #[.string a0] w fun e w' => e = .returned (.bool r) ∧ Below w.heap.size w w' := by
 have hu25 := Try.underlying25
 have hu33 := Try.underlying33
 have HB := am (Below.refl w.heap.size w)
 have H : (if (a0.size : Int) > 300 then (if 0 ≤ 300 then (if 300 ≤ (a0.size : Int) then (zelligelaw04_WholeParses.j0 k (a0.extract 0 300)) else (none)) else (none)) else (zelligelaw04_WholeParses.j0 k a0)) = some r := h
 clear h
 have HC2 := am H
 clear H
 go_enter Try.func8, Try.ntmps8
 go_upto_if 11 with (fail)
 go_cut [0] (fun v0 wc => ∃ (kq : Nat) (x0_1 : ByteArray), v0 = .string x0_1 ∧ Aside0 (zelligelaw04_WholeParses.j0 kq x0_1 = some r) ∧ Aside0 (kq ≤ k) ∧ Aside0 (Below w.heap.size w wc))
 case first =>
  have H := HC2.out
  clear HC2
  by_cases c3 : (a0.size : Int) > 300
  ·
   rw [if_pos c3] at H
   have c3b0 : decide (300 < (a0.size : Int)) = true := decide_eq_true c3
   have c3b1 : decide (300 < a0.size) = true := decide_eq_true (by omega)
   clear c3
   (rw [c3b0])
   obtain ⟨c4, H⟩ := iteS H
   have c4b0 := eq_true c4
   have c4b1 : decide (0 ≤ 300) = true := decide_eq_true c4
   clear c4
   obtain ⟨c5, H⟩ := iteS H
   have c5b0 := eq_true c5
   have c5b1 : decide (300 ≤ (a0.size : Int)) = true := decide_eq_true c5
   clear c5
   have H' := am H
   clear H
   go_wp2
   go_meet
   case rel => exact ⟨_, (a0.extract 0 300), (by rfl), H', ⟨by omega⟩, ⟨by with_reducible exact HB.out⟩⟩
  ·
   rw [if_neg c3] at H
   have c3b0 : decide (300 < (a0.size : Int)) = false := decide_eq_false c3
   have c3b1 : decide (300 < a0.size) = false := decide_eq_false (by omega)
   clear c3
   (rw [c3b0])
   have H' := am H
   clear H
   go_wp2
   go_meet
   case rel => exact ⟨_, (a0), (by rfl), H', ⟨by omega⟩, ⟨by with_reducible exact HB.out⟩⟩
 case rest =>
  clear HC2
  obtain ⟨kq, x0_1, rfl, HA, HJ1, HB⟩ := hcut
  cases kq with
  | zero => exact absurd HA.out (by simp [zelligelaw04_WholeParses.j0])
  | succ kj1 =>
   have H := HA.out
   clear HA
   simp only [zelligelaw04_WholeParses.j0] at H
   obtain ⟨⟨t1045, t1046, t1049⟩, A6, H⟩ := bindE H
   replace H : (if (x0_1.size : Int) > 0 then (if 0 < (x0_1.size : Int) then (zelligelaw04_WholeParses.j1 kj1 x0_1 t1049 ((bt x0_1 0) == 45) t1045 t1046) else (none)) else (zelligelaw04_WholeParses.j1 kj1 x0_1 t1049 false t1045 t1046)) = some r := H
   have HC7 := am H
   clear H
   go_upto_region 4 with (first | ((with_reducible refine gate_callee (f := 33) rfl ?_); refine goesL_ (some 16) rfl rfl Try.func33 (by kernel_rfl) rfl #[.string x0_1] rfl (by (try simp only [List.map_toArray, List.map_cons, List.map_nil]); rfl) ?_; (with_reducible refine (whole_Parse.calls kj1 x0_1 t1045 t1046 t1049 _ A6.out).mono ?_); rintro e w8 ⟨v1047, rfl, ho0, hb⟩; refine ⟨_, rfl, ?_⟩; have HO1048 := am (Kd.R_lower ho0 (below_size HB.out)); replace HB := am (below_step HB.out hb); (try clear hb); (try clear ho0)) | ((with_reducible refine gate_dst (N := 3) rfl ?_); (try (refine gate_guard (by rfl) ?_; dsimp only)); refine box_event ?hg (N := 3) ?hd (cs := #[.bool false, .slice none 0 0]) (t := 25) ?hr ?_; (case hd => rfl); (case hg => rfl); (case hr => (go_simp; done)); intro gb1050 hg w9 hbox hb; replace HO1048 := am (Kd.R_below HO1048.out hb); have BK1050 := am hbox; have GW1050 := am (gel hg HB.out); have GE1050 := am (gel hg HB.out); replace HB := am (below_step HB.out hb); clear hb hbox hg; have hcz10_0 : w9.cell? ⟨gb1050, 0, none⟩ = some (.bool false) := (blk_cell BK1050.out 0).trans rfl; have hcz10_1 : w9.cell? ⟨gb1050, 1, none⟩ = some (.slice none 0 0) := (blk_cell BK1050.out 1).trans rfl; have hfz10_0 := blk_frozen BK1050.out 0; have hfz10_1 := blk_frozen BK1050.out 1; obtain ⟨Ao11, co11, eo11⟩ := Kd.R_slice HO1048.out; subst eo11))
   go_cut [5] (fun v5 wc => ∃ (kq : Nat) (x5_6 : Bool), v5 = .bool x5_6 ∧ Aside0 (zelligelaw04_WholeParses.j1 kq x0_1 t1049 x5_6 t1045 t1046 = some r) ∧ Aside0 (kq ≤ kj1) ∧ Aside0 (Kd.R (Kd.int .u32) 78 wc w.heap.size (fun _ => True) (.slice Ao11 t1046.length co11) t1046) ∧ Aside0 (wc.heap[gb1050]? = some (.cells #[.bool t1045, (.slice Ao11 t1046.length co11)] 25 (0, 0))) ∧ Aside0 (Below w.heap.size w wc))
   case first =>
    have H := HC7.out
    clear HC7
    by_cases c12 : (x0_1.size : Int) > 0
    ·
     rw [if_pos c12] at H
     have c12b0 : decide (0 < (x0_1.size : Int)) = true := decide_eq_true c12
     have c12b1 : decide (0 < x0_1.size) = true := decide_eq_true (by omega)
     clear c12
     (skip)
     obtain ⟨c13, H⟩ := iteS H
     have c13b0 : decide (0 < (x0_1.size : Int)) = true := decide_eq_true c13
     have c13b1 : decide (0 < x0_1.size) = true := decide_eq_true (by omega)
     clear c13
     have H' := am H
     clear H
     have p14 : 0 ≤ (0 : Int) := (by omega)
     have q14 : 0 < x0_1.size := (by have : (0 : Int) < (x0_1.size : Int) := of_decide_eq_true (by (with_reducible assumption)); omega)
     have hx14 : ∀ h : 0 < x0_1.size, ((x0_1[0]'h).toNat : Int) = bt x0_1 0 := bt_at x0_1 0
     clear p14
     have qi14 : (0 < (x0_1.size : Int)) = True := eq_true (of_decide_eq_true (by (with_reducible assumption)))
     replace q14 := eq_true q14
     go_wp2
     go_meet
     case rel => exact ⟨_, (((bt x0_1 0) == 45)), (by rfl), H', ⟨by have := HJ1.out; omega⟩, ⟨by exact Kd.R_mono (Kd.R_far (p := ⟨gb1050, 1, none⟩) (Kd.R_far (p := ⟨gb1050, 0, none⟩) (Kd.R_types HO1048.out BK1050.out (by decide)) (fun _ hk => by exact hk.2) (.bool t1045)) (fun _ hk => by exact hk.2) (.slice Ao11 t1046.length co11)) (fun _ hk => trivial)⟩, ⟨by refine blk_put (cs := #[.bool t1045, .slice none 0 0]) ?_ 1 _ rfl; refine blk_put (cs := #[.bool false, .slice none 0 0]) ?_ 0 _ rfl; exact BK1050.out⟩, ⟨by repeat ((with_reducible first | exact HB.out | refine below_set ?_ GE1050.out))⟩⟩
    ·
     rw [if_neg c12] at H
     have c12b0 : decide (0 < (x0_1.size : Int)) = false := decide_eq_false c12
     have c12b1 : decide (0 < x0_1.size) = false := decide_eq_false (by omega)
     clear c12
     (skip)
     have H' := am H
     clear H
     go_wp2
     go_meet
     case rel => exact ⟨_, (false), (by rfl), H', ⟨by have := HJ1.out; omega⟩, ⟨by exact Kd.R_mono (Kd.R_far (p := ⟨gb1050, 1, none⟩) (Kd.R_far (p := ⟨gb1050, 0, none⟩) (Kd.R_types HO1048.out BK1050.out (by decide)) (fun _ hk => by exact hk.2) (.bool t1045)) (fun _ hk => by exact hk.2) (.slice Ao11 t1046.length co11)) (fun _ hk => trivial)⟩, ⟨by refine blk_put (cs := #[.bool t1045, .slice none 0 0]) ?_ 1 _ rfl; refine blk_put (cs := #[.bool false, .slice none 0 0]) ?_ 0 _ rfl; exact BK1050.out⟩, ⟨by repeat ((with_reducible first | exact HB.out | refine below_set ?_ GE1050.out))⟩⟩
   case rest =>
    clear HC7
    try clear hcz10_0
    try clear hcz10_1
    try clear hfz10_0
    try clear hfz10_1
    obtain ⟨kq, x5_6, rfl, HA, HJ6, HO_1051001, BK1050, HB⟩ := hcut
    cases kq with
    | zero => exact absurd HA.out (by simp [zelligelaw04_WholeParses.j1])
    | succ kj6 =>
     have H := HA.out
     clear HA
     simp only [zelligelaw04_WholeParses.j1] at H
     have HC15 := am H
     clear H
     go_upto_if 28 with (fail)
     go_cut [6] (fun v6 wc => ∃ (kq : Nat) (x6_14 : ByteArray), v6 = .string x6_14 ∧ Aside0 (zelligelaw04_WholeParses.j2 kq t1049 x5_6 x6_14 t1045 t1046 = some r) ∧ Aside0 (kq ≤ kj6) ∧ Aside0 (Kd.R (Kd.int .u32) 78 wc w.heap.size (fun _ => True) (.slice Ao11 t1046.length co11) t1046) ∧ Aside0 (wc.heap[gb1050]? = some (.cells #[.bool t1045, (.slice Ao11 t1046.length co11)] 25 (0, 0))) ∧ Aside0 (Below w.heap.size w wc))
     case first =>
      have H := HC15.out
      clear HC15
      by_cases c16 : x5_6 = true
      ·
       subst c16
       rw [if_pos rfl] at H
       obtain ⟨c17, H⟩ := iteS H
       have c17b0 := eq_true c17
       have c17b1 : decide (1 ≤ (x0_1.size : Int)) = true := decide_eq_true c17
       clear c17
       have H' := am H
       clear H
       go_wp2
       go_meet
       case rel => exact ⟨_, (x0_1.extract 1 x0_1.size), (by rfl), H', ⟨by have := HJ1.out; have := HJ6.out; omega⟩, ⟨by exact HO_1051001.out⟩, ⟨by exact BK1050.out⟩, ⟨by with_reducible exact HB.out⟩⟩
      ·
       replace c16 := Bool.eq_false_iff.mpr c16
       subst c16
       rw [if_neg (show ¬ (false = true) by decide)] at H
       have H' := am H
       clear H
       go_wp2
       go_meet
       case rel => exact ⟨_, (x0_1), (by rfl), H', ⟨by have := HJ1.out; have := HJ6.out; omega⟩, ⟨by exact HO_1051001.out⟩, ⟨by exact BK1050.out⟩, ⟨by with_reducible exact HB.out⟩⟩
     case rest =>
      clear HC15
      obtain ⟨kq, x6_14, rfl, HA, HJ14, HO_1051001, BK1050, HB⟩ := hcut
      cases kq with
      | zero => exact absurd HA.out (by simp [zelligelaw04_WholeParses.j2])
      | succ kj14 =>
       have H := HA.out
       clear HA
       simp only [zelligelaw04_WholeParses.j2] at H
       obtain ⟨⟨t1051, t1052⟩, A18, H⟩ := bindE H
       replace H : (if t1052 = 0 then (if x5_6 = true then (zelligelaw04_WholeParses.j3 kj14 t1049 x5_6 t1051 t1052 ((t1051.length : Int) == 0) t1045 t1046) else (zelligelaw04_WholeParses.j3 kj14 t1049 x5_6 t1051 t1052 false t1045 t1046)) else (zelligelaw04_WholeParses.j3 kj14 t1049 x5_6 t1051 t1052 false t1045 t1046)) = some r := H
       have HC19 := am H
       clear H
       go_upto_region 9 with (((with_reducible refine gate_callee (f := 35) rfl ?_); refine goesL_ (some 33) rfl rfl Try.func35 (by kernel_rfl) rfl #[.string x6_14] rfl (by (try simp only [List.map_toArray, List.map_cons, List.map_nil]); rfl) ?_; (with_reducible refine (zelligeref03_Parse.calls kj14 x6_14 t1051 t1052 _ A18.out).mono ?_); rintro e w20 ⟨v1053, rfl, ho0, hb⟩; refine ⟨_, rfl, ?_⟩; replace HO_1051001 := am (Kd.R_below HO_1051001.out hb); have HO1054 := am (Kd.R_lower ho0 (below_size HB.out)); replace BK1050 := am (blk_below BK1050.out hb); replace HB := am (below_step HB.out hb); (try clear hb); (try clear ho0)))
       go_cut [45] (fun v45 wc => ∃ (kq : Nat) (x45_18 : Bool), v45 = .bool x45_18 ∧ Aside0 (zelligelaw04_WholeParses.j3 kq t1049 x5_6 t1051 t1052 x45_18 t1045 t1046 = some r) ∧ Aside0 (kq ≤ kj14) ∧ Aside0 (Kd.R (Kd.int .i64) 3 wc w.heap.size (fun _ => True) v1053 t1051) ∧ Aside0 (Kd.R (Kd.int .u32) 78 wc w.heap.size (fun _ => True) (.slice Ao11 t1046.length co11) t1046) ∧ Aside0 (wc.heap[gb1050]? = some (.cells #[.bool t1045, (.slice Ao11 t1046.length co11)] 25 (0, 0))) ∧ Aside0 (Below w.heap.size w wc))
       case first =>
        have H := HC19.out
        clear HC19
        by_cases c21 : t1052 = 0
        ·
         rw [if_pos c21] at H
         have c21b0 : (t1052 == 0) = true := beq_iff_eq.mpr c21
         have c21b1 : (t1052 != 0) = false := bne_eq_false_iff_eq.mpr c21
         clear c21
         (skip)
         by_cases c22 : x5_6 = true
         ·
          subst c22
          rw [if_pos rfl] at H
          have H' := am H
          clear H
          obtain ⟨Ao23, co23, eo23⟩ := Kd.R_slice HO1054.out
          subst eo23
          go_wp2
          go_meet
          case rel => exact ⟨_, (((t1051.length : Int) == 0)), (by rfl), H', ⟨by have := HJ1.out; have := HJ6.out; have := HJ14.out; omega⟩, ⟨by exact HO1054.out⟩, ⟨by exact HO_1051001.out⟩, ⟨by exact BK1050.out⟩, ⟨by with_reducible exact HB.out⟩⟩
         ·
          replace c22 := Bool.eq_false_iff.mpr c22
          subst c22
          rw [if_neg (show ¬ (false = true) by decide)] at H
          have H' := am H
          clear H
          go_wp2
          go_meet
          case rel => exact ⟨_, (false), (by rfl), H', ⟨by have := HJ1.out; have := HJ6.out; have := HJ14.out; omega⟩, ⟨by exact HO1054.out⟩, ⟨by exact HO_1051001.out⟩, ⟨by exact BK1050.out⟩, ⟨by with_reducible exact HB.out⟩⟩
        ·
         rw [if_neg c21] at H
         have c21b0 : (t1052 == 0) = false := beq_eq_false_iff_ne.mpr c21
         have c21b1 : (t1052 != 0) = true := bne_iff_ne.mpr c21
         (skip)
         have H' := am H
         clear H
         go_wp2
         go_meet
         case rel => exact ⟨_, (false), (by rfl), H', ⟨by have := HJ1.out; have := HJ6.out; have := HJ14.out; omega⟩, ⟨by exact HO1054.out⟩, ⟨by exact HO_1051001.out⟩, ⟨by exact BK1050.out⟩, ⟨by with_reducible exact HB.out⟩⟩
       case rest =>
        clear HC19
        obtain ⟨kq, x45_18, rfl, HA, HJ18, HO_7, HO_1051001, BK1050, HB⟩ := hcut
        cases kq with
        | zero => exact absurd HA.out (by simp [zelligelaw04_WholeParses.j3])
        | succ kj18 =>
         have H := HA.out
         clear HA
         simp only [zelligelaw04_WholeParses.j3] at H
         have HC24 := am H
         clear H
         go_upto_if 45 with (fail)
         go_cut [8] (fun v8 wc => ∃ (kq : Nat) (x8_23 : Int), v8 = .int .i64 x8_23 ∧ Aside0 (zelligelaw04_WholeParses.j4 kq t1049 x5_6 t1051 x8_23 t1045 t1046 = some r) ∧ Aside0 (kq ≤ kj18) ∧ Aside0 (Kd.R (Kd.int .i64) 3 wc w.heap.size (fun _ => True) v1053 t1051) ∧ Aside0 (Kd.R (Kd.int .u32) 78 wc w.heap.size (fun _ => True) (.slice Ao11 t1046.length co11) t1046) ∧ Aside0 (wc.heap[gb1050]? = some (.cells #[.bool t1045, (.slice Ao11 t1046.length co11)] 25 (0, 0))) ∧ Aside0 (Below w.heap.size w wc))
         case first =>
          have H := HC24.out
          clear HC24
          by_cases c25 : x45_18 = true
          ·
           subst c25
           rw [if_pos rfl] at H
           have H' := am H
           clear H
           go_wp2
           go_meet
           case rel => exact ⟨_, (4), (by rfl), H', ⟨by have := HJ1.out; have := HJ6.out; have := HJ14.out; have := HJ18.out; omega⟩, ⟨by exact HO_7.out⟩, ⟨by exact HO_1051001.out⟩, ⟨by exact BK1050.out⟩, ⟨by with_reducible exact HB.out⟩⟩
          ·
           replace c25 := Bool.eq_false_iff.mpr c25
           subst c25
           rw [if_neg (show ¬ (false = true) by decide)] at H
           have H' := am H
           clear H
           go_wp2
           go_meet
           case rel => exact ⟨_, (t1052), (by rfl), H', ⟨by have := HJ1.out; have := HJ6.out; have := HJ14.out; have := HJ18.out; omega⟩, ⟨by exact HO_7.out⟩, ⟨by exact HO_1051001.out⟩, ⟨by exact BK1050.out⟩, ⟨by with_reducible exact HB.out⟩⟩
         case rest =>
          clear HC24
          obtain ⟨kq, x8_23, rfl, HA, HJ23, HO_7, HO_1051001, BK1050, HB⟩ := hcut
          cases kq with
          | zero => exact absurd HA.out (by simp [zelligelaw04_WholeParses.j4])
          | succ kj23 =>
           have H := HA.out
           clear HA
           simp only [zelligelaw04_WholeParses.j4] at H
           by_cases c26 : x8_23 = 0
           ·
            rw [if_pos c26] at H
            have c26b0 : (x8_23 == 0) = true := beq_iff_eq.mpr c26
            have c26b1 : (x8_23 != 0) = false := bne_eq_false_iff_eq.mpr c26
            clear c26
            obtain ⟨t1055, A27, H⟩ := bindE H
            by_cases c28 : t1055 = true
            ·
             subst c28
             rw [if_pos rfl] at H
             by_cases c29 : (t1045 == x5_6) = true
             ·
              rw [if_pos c29] at H
              have c29b0 : (t1045 == x5_6) = true := c29
              (try (have c29b1 : decide (t1045 = x5_6) = true := by simpa using c29))
              (try (have c29b2 : (t1045 == x5_6) = true := by simpa using c29))
              clear c29
              by_cases c30 : t1049 = 0
              ·
               rw [if_pos c30] at H
               have c30b0 : (t1049 == 0) = true := beq_iff_eq.mpr c30
               have c30b1 : (t1049 != 0) = false := bne_eq_false_iff_eq.mpr c30
               clear c30
               obtain ⟨t1056, A31, H⟩ := bindE H
               obtain rfl := Option.some.inj H
               have hcz32_0 : wc.cell? ⟨gb1050, 0, none⟩ = some (.bool t1045) := (blk_cell BK1050.out 0).trans rfl
               have hcz32_1 : wc.cell? ⟨gb1050, 1, none⟩ = some (.slice Ao11 t1046.length co11) := (blk_cell BK1050.out 1).trans rfl
               have hfz32_0 := blk_frozen BK1050.out 0
               have hfz32_1 := blk_frozen BK1050.out 1
               obtain ⟨Ao33, co33, eo33⟩ := Kd.R_slice HO_7.out
               subst eo33
               go_wp2_with (first | ((with_reducible refine gate_callee (f := 36) rfl ?_); refine goesL_ (some 62) rfl rfl Try.func36 (by kernel_rfl) rfl #[.slice Ao11 t1046.length co11, .slice Ao33 t1051.length co33] rfl (by (try simp only [List.map_toArray, List.map_cons, List.map_nil]); rfl) ?_; (with_reducible refine (zelligeref03_Same.calls kj23 _ _ t1046 _ _ t1051 true _ ?side1 ?side2 ?side3 ?side4 A27.out).mono ?_); (case side1 => exact (Kd.R_reads' HO_1051001.out).2.2); (case side2 => exact (Kd.R_reads' HO_1051001.out).2.1); (case side3 => exact (Kd.R_reads' HO_7.out).2.2); (case side4 => exact (Kd.R_reads' HO_7.out).2.1); rintro e w34 ⟨rfl, hb⟩; refine ⟨_, rfl, ?_⟩; replace HO_7 := am (Kd.R_below HO_7.out hb); replace HO_1051001 := am (Kd.R_below HO_1051001.out hb); replace BK1050 := am (blk_below BK1050.out hb); replace HB := am (below_step HB.out hb); (try clear hb); have hcz35_0 : w34.cell? ⟨gb1050, 0, none⟩ = some (.bool t1045) := (blk_cell BK1050.out 0).trans rfl; have hcz35_1 : w34.cell? ⟨gb1050, 1, none⟩ = some (.slice Ao11 t1046.length co11) := (blk_cell BK1050.out 1).trans rfl; have hfz35_0 := blk_frozen BK1050.out 0; have hfz35_1 := blk_frozen BK1050.out 1) | (go_at_call 15; (with_reducible refine (zelligelaw04_lives.calls kj23  t1056 _ A31.out).mono ?_); rintro e w36 ⟨rfl, hb⟩; replace HO_7 := am (Kd.R_below HO_7.out hb); replace HO_1051001 := am (Kd.R_below HO_1051001.out hb); replace BK1050 := am (blk_below BK1050.out hb); replace HB := am (below_step HB.out hb); (try clear hb)))
               go_ret
               exact ⟨by rfl, by with_reducible exact HB.out⟩
              ·
               rw [if_neg c30] at H
               have c30b0 : (t1049 == 0) = false := beq_eq_false_iff_ne.mpr c30
               have c30b1 : (t1049 != 0) = true := bne_iff_ne.mpr c30
               exact absurd (Option.some.inj (H.trans (congrArg some hT.out))) (by decide)
             ·
              rw [if_neg c29] at H
              have c29b0 : (t1045 == x5_6) = false := by simpa using c29
              (try (have c29b1 : decide (t1045 = x5_6) = false := by simpa using c29))
              (try (have c29b2 : (t1045 == x5_6) = false := by simpa using c29))
              (try (have c29b3 : ¬ (t1045 = x5_6) := by simpa using c29))
              clear c29
              exact absurd (Option.some.inj (H.trans (congrArg some hT.out))) (by decide)
            ·
             replace c28 := Bool.eq_false_iff.mpr c28
             subst c28
             rw [if_neg (show ¬ (false = true) by decide)] at H
             exact absurd (Option.some.inj (H.trans (congrArg some hT.out))) (by decide)
           ·
            rw [if_neg c26] at H
            have c26b0 : (x8_23 == 0) = false := beq_eq_false_iff_ne.mpr c26
            have c26b1 : (x8_23 != 0) = true := bne_iff_ne.mpr c26
            obtain ⟨t1057, A37, H⟩ := bindE H
            by_cases c38 : t1057 = true
            ·
             subst c38
             rw [if_pos rfl] at H
             by_cases c39 : t1049 = x8_23
             ·
              rw [if_pos c39] at H
              have c39b0 : (t1049 == x8_23) = true := beq_iff_eq.mpr c39
              have c39b1 : (t1049 != x8_23) = false := bne_eq_false_iff_eq.mpr c39
              clear c39
              obtain ⟨t1058, A40, H⟩ := bindE H
              obtain rfl := Option.some.inj H
              have hcz41_0 : wc.cell? ⟨gb1050, 0, none⟩ = some (.bool t1045) := (blk_cell BK1050.out 0).trans rfl
              have hcz41_1 : wc.cell? ⟨gb1050, 1, none⟩ = some (.slice Ao11 t1046.length co11) := (blk_cell BK1050.out 1).trans rfl
              have hfz41_0 := blk_frozen BK1050.out 0
              have hfz41_1 := blk_frozen BK1050.out 1
              go_wp2_with (first | ((with_reducible refine gate_callee (f := 14) rfl ?_); refine goesL_ (some 50) rfl rfl Try.func14 (by kernel_rfl) rfl #[.agg #[.bool t1045, .slice Ao11 t1046.length co11], .agg #[.int .i64 0, .slice none 0 0]] rfl (by (try simp only [List.map_toArray, List.map_cons, List.map_nil]); rfl) ?_; (refine (zelligeref04_Same.calls kj23 t1045 _ _ t1046 0 _ _ ([] : List Int) true _ ?side1 ?side2 ?side3 ?side4 A37.out).mono ?_); (case side1 => exact (Kd.R_reads' HO_1051001.out).2.2); (case side2 => exact (Kd.R_reads' HO_1051001.out).2.1); (case side3 => exact Kd.C_nil _ _); (case side4 => exact Nat.le_refl _); rintro e w42 ⟨rfl, hb⟩; refine ⟨_, rfl, ?_⟩; replace HO_7 := am (Kd.R_below HO_7.out hb); replace HO_1051001 := am (Kd.R_below HO_1051001.out hb); replace BK1050 := am (blk_below BK1050.out hb); replace HB := am (below_step HB.out hb); (try clear hb)) | (go_at_call 15; (with_reducible refine (zelligelaw04_lives.calls kj23  t1058 _ A40.out).mono ?_); rintro e w43 ⟨rfl, hb⟩; replace HO_7 := am (Kd.R_below HO_7.out hb); replace HO_1051001 := am (Kd.R_below HO_1051001.out hb); replace BK1050 := am (blk_below BK1050.out hb); replace HB := am (below_step HB.out hb); (try clear hb)))
              go_ret
              exact ⟨by rfl, by with_reducible exact HB.out⟩
             ·
              rw [if_neg c39] at H
              have c39b0 : (t1049 == x8_23) = false := beq_eq_false_iff_ne.mpr c39
              have c39b1 : (t1049 != x8_23) = true := bne_iff_ne.mpr c39
              exact absurd (Option.some.inj (H.trans (congrArg some hT.out))) (by decide)
            ·
             replace c38 := Bool.eq_false_iff.mpr c38
             subst c38
             rw [if_neg (show ¬ (false = true) by decide)] at H
             exact absurd (Option.some.inj (H.trans (congrArg some hT.out))) (by decide)

/-- THE ONE PURE STATEMENT of zelligelaw04_WholeParses: yours. -/
def zelligelaw04_WholeParses.Pure : Prop := ∀ (a0 : ByteArray), a0.size ≤ 140737488351232 → ∃ k, zelligelaw04_WholeParses.f k a0 = some true
theorem zelligelaw04_WholeParses.walk (P : zelligelaw04_WholeParses.Pure) (a0 : ByteArray) (w : World) (w0 : a0.size ≤ 140737488351232) :
  Calls Try.prog 8 #[.string a0] w fun e w' => e = .returned (.bool true) ∧ Below w.heap.size w w' := by
 obtain ⟨k, h⟩ := P a0 w0
 refine (zelligelaw04_WholeParses.calls k a0 true w h ⟨rfl⟩).mono ?_
 rintro e w' ⟨rfl, hd⟩
 exact ⟨rfl, hd⟩

end Go.Proofs.Ytmfmojldebhboaa.ZWhole
