-- printed by zprint.py, a program of this session's
import Derived.Test.YtmfmojldebhboaaZWhole0
import Derived.Test.YtmfmojldebhboaaZWholegLive4
import Derived.Test.YtmfmojldebhboaaZWholegQAdd
import Derived.Test.YtmfmojldebhboaaZWholegQOf
import Derived.Test.YtmfmojldebhboaaZWholegQSub
import Derived.Test.YtmfmojldebhboaaZWholegShort4
import Derived.Test.YtmfmojldebhboaaZWholegSize
import Derived.Test.YtmfmojldebhboaaZWholegWAdd
import Derived.Test.YtmfmojldebhboaaZWholegWMul
namespace Go.Proofs.Ytmfmojldebhboaa.ZWhole
open Go.RowKit Go.Proofs.YtmfmojldebhboaaW.PrintWords Go.Proofs.YtmfmojldebhboaaW.PrintLast Go.Proofs.YtmfmojldebhboaaW.PrintMore
set_option linter.unusedVariables false
set_option linter.unusedSimpArgs false

/-! ### zelligelaw04_WholeAdds: function 4 -/
def zelligelaw04_WholeAdds.f (k : Nat) (a0_0 : Bool) (l0_1 : List Int) (a1_0 : Bool) (l1_1 : List Int) : Option (Bool) := (zelligelaw04_Short.f a0_0 l0_1).bind fun bt653 => ((zelligelaw04_Short.f a1_0 l1_1).bind fun bt657 => ((zelligeref04_Of.f k bt653.1 bt653.2).bind fun bt661 => ((zelligeref04_Of.f k bt657.1 bt657.2).bind fun bt665 => ((whole_Add.f k bt653.1 bt653.2 bt657.1 bt657.2).bind fun bt671 => ((zelligeref04_Add.f k bt661.1 bt661.2 bt665.1 bt665.2).bind fun bt675 => ((zelligeref04_Same.f k bt671.1 bt671.2 bt675.1 bt675.2).bind fun t679 => (if t679 = true then ((whole_Sub.f k bt653.1 bt653.2 bt657.1 bt657.2).bind fun bt680 => ((zelligeref04_Sub.f k bt661.1 bt661.2 bt665.1 bt665.2).bind fun bt684 => ((zelligeref04_Same.f k bt680.1 bt680.2 bt684.1 bt684.2).bind fun t688 => (if t688 = true then ((whole_Mul.f k bt653.1 bt653.2 bt657.1 bt657.2).bind fun bt689 => ((zelligeref04_Mul.f k bt661.1 bt661.2 bt665.1 bt665.2).bind fun bt693 => ((zelligeref04_Same.f k bt689.1 bt689.2 bt693.1 bt693.2).bind fun t697 => (if t697 = true then ((whole_Neg.f k bt653.1 bt653.2).bind fun bt698 => ((zelligeref04_Neg.f bt661.1 bt661.2).bind fun bt702 => ((zelligeref04_Same.f k bt698.1 bt698.2 bt702.1 bt702.2).bind fun t706 => (if t706 = true then ((whole_Norm.f k bt653.1 bt653.2).bind fun bt707 => ((zelligeref04_Same.f k bt707.1 bt707.2 bt661.1 bt661.2).bind fun t711 => (if t711 = true then ((zelligelaw04_lives.f k).bind fun t712 => (some t712)) else (some false)))) else (some false))))) else (some false))))) else (some false))))) else (some false))))))))
theorem zelligelaw04_WholeAdds.mono : ∀ a0 a1 a2 a3 k, LeO (zelligelaw04_WholeAdds.f k a0 a1 a2 a3) (zelligelaw04_WholeAdds.f (k + 1) a0 a1 a2 a3) := by
 intro a0 a1 a2 a3 k
 unfold zelligelaw04_WholeAdds.f
 repeat' first
   | (with_reducible exact whole_Add.mono _ _ _ _ _)
   | (with_reducible exact whole_Mul.mono _ _ _ _ _)
   | (with_reducible exact whole_Neg.mono _ _ _)
   | (with_reducible exact whole_Norm.mono _ _ _)
   | (with_reducible exact whole_Sub.mono _ _ _ _ _)
   | (with_reducible exact zelligelaw04_lives.mono _)
   | (with_reducible exact zelligeref04_Add.mono _ _ _ _ _)
   | (with_reducible exact zelligeref04_Mul.mono _ _ _ _ _)
   | (with_reducible exact zelligeref04_Of.mono _ _ _)
   | (with_reducible exact zelligeref04_Same.mono _ _ _ _ _)
   | (with_reducible exact zelligeref04_Sub.mono _ _ _ _ _)
   | (with_reducible exact LeO.refl _)
   | (with_reducible refine LeO.ite ?_ ?_)
   | (with_reducible refine LeO.bind ?_ (fun _ => ?_))
def zelligelaw04_WholeAdds.T2 : Bool × List (List Nat × List Nat) := (true, [([], []), ([0], [0]), ([], []), ([2, 1], [2]), ([], []), ([], []), ([4, 1, 3, 0, 1, 4, 5], [1, 4]), ([5, 3, 6, 0, 1, 2, 3, 4, 5, 6], [3, 5])])
def zelligelaw04_WholeAdds.B2 : List Nat := [0, 1, 0, 7, 0, 0, 63, 127]
theorem zelligelaw04_WholeAdds.tab2 : rtab .any (opsOf Try.f4 2) = zelligelaw04_WholeAdds.T2 := by kernel_rfl
theorem zelligelaw04_WholeAdds.bits2 : waitsOk zelligelaw04_WholeAdds.T2.2 zelligelaw04_WholeAdds.B2 = true := by kernel_rfl
def zelligelaw04_WholeAdds.T3 : Bool × List (List Nat × List Nat) := (true, [([], []), ([], []), ([0, 1], [0, 1]), ([], []), ([], []), ([3, 4, 2], [3, 4]), ([2, 5, 5], [2, 5]), ([6, 6], [6]), ([7], [7]), ([7], [7]), ([8, 9, 7, 7], [7, 8, 9]), ([7], [7]), ([7], [7]), ([11, 12, 10, 7], [7, 11, 12]), ([10, 13, 13, 7], [7, 10, 13]), ([7, 14], [7, 14]), ([15, 14], [15]), ([16], [16]), ([16], [16]), ([17, 18, 16, 16], [16, 17, 18]), ([16], [16]), ([16], [16]), ([20, 21, 19, 16], [16, 20, 21]), ([19, 22, 22, 16], [16, 19, 22]), ([16, 23], [16, 23]), ([24, 23], [24]), ([25], [25]), ([26, 25, 25], [25, 26]), ([25], [25]), ([28, 27, 25], [25, 28]), ([27, 29, 29, 25], [25, 27, 29]), ([25, 30], [25, 30]), ([31, 30], [31]), ([32], [32]), ([33, 32, 32], [32, 33]), ([32], [32]), ([34, 35, 34, 32], [32, 34, 35]), ([32, 36], [32, 36]), ([37, 36], [37]), ([38, 38], [38]), ([38, 39], [38, 39]), ([40, 39, 0, 1, 2, 3, 4, 5, 6, 7, 8, 9, 10, 11, 12, 13, 14, 15, 16, 17, 18, 19, 20, 21, 22, 23, 24, 25, 26, 27, 28, 29, 30, 31, 32, 33, 34, 35, 36, 37, 38, 39, 40], [40])])
def zelligelaw04_WholeAdds.B3 : List Nat := [0, 0, 3, 0, 0, 31, 63, 127, 255, 255, 1023, 255, 255, 8191, 16383, 32767, 65535, 131071, 131071, 524287, 131071, 131071, 4194303, 8388607, 16777215, 33554431, 67108863, 134217727, 67108863, 536870911, 1073741823, 2147483647, 4294967295, 8589934591, 17179869183, 8589934591, 68719476735, 137438953471, 274877906943, 549755813887, 1099511627775, 2199023255551]
theorem zelligelaw04_WholeAdds.tab3 : rtab .any (opsOf Try.f4 3) = zelligelaw04_WholeAdds.T3 := by kernel_rfl
theorem zelligelaw04_WholeAdds.bits3 : waitsOk zelligelaw04_WholeAdds.T3.2 zelligelaw04_WholeAdds.B3 = true := by kernel_rfl
set_option maxHeartbeats 8000000 in
set_option maxRecDepth 100000 in
theorem zelligelaw04_WholeAdds.calls (k : Nat) (a0_0 : Bool) (A0_1 : Option Addr) (c0_1 : Nat) (l0_1 : List Int) (a1_0 : Bool) (A1_1 : Option Addr) (c1_1 : Nat) (l1_1 : List Int) (r : Bool) (w : World) (hr0_1 : Kd.C (Kd.int .u32) w A0_1 l0_1.length l0_1) (hc0_1 : l0_1.length ≤ c0_1) (hr1_1 : Kd.C (Kd.int .u32) w A1_1 l1_1.length l1_1) (hc1_1 : l1_1.length ≤ c1_1) (h : zelligelaw04_WholeAdds.f k a0_0 l0_1 a1_0 l1_1 = some r) (hT : Aside0 (r = true)) :
  Calls Try.prog 4 #[.agg #[.bool a0_0, .slice A0_1 l0_1.length c0_1], .agg #[.bool a1_0, .slice A1_1 l1_1.length c1_1]] w fun e w' => e = .returned (.bool r) ∧ Below w.heap.size w w' := by
 have hu25 := Try.underlying25
 have hu33 := Try.underlying33
 have HR0_1 := am hr0_1
 have HC0_1 := am hc0_1
 clear hr0_1 hc0_1
 have HR1_1 := am hr1_1
 have HC1_1 := am hc1_1
 clear hr1_1 hc1_1
 have HB := am (Below.refl w.heap.size w)
 have H : ((zelligelaw04_Short.f a0_0 l0_1).bind fun bt653 => ((zelligelaw04_Short.f a1_0 l1_1).bind fun bt657 => ((zelligeref04_Of.f k bt653.1 bt653.2).bind fun bt661 => ((zelligeref04_Of.f k bt657.1 bt657.2).bind fun bt665 => ((whole_Add.f k bt653.1 bt653.2 bt657.1 bt657.2).bind fun bt671 => ((zelligeref04_Add.f k bt661.1 bt661.2 bt665.1 bt665.2).bind fun bt675 => ((zelligeref04_Same.f k bt671.1 bt671.2 bt675.1 bt675.2).bind fun t679 => (if t679 = true then ((whole_Sub.f k bt653.1 bt653.2 bt657.1 bt657.2).bind fun bt680 => ((zelligeref04_Sub.f k bt661.1 bt661.2 bt665.1 bt665.2).bind fun bt684 => ((zelligeref04_Same.f k bt680.1 bt680.2 bt684.1 bt684.2).bind fun t688 => (if t688 = true then ((whole_Mul.f k bt653.1 bt653.2 bt657.1 bt657.2).bind fun bt689 => ((zelligeref04_Mul.f k bt661.1 bt661.2 bt665.1 bt665.2).bind fun bt693 => ((zelligeref04_Same.f k bt689.1 bt689.2 bt693.1 bt693.2).bind fun t697 => (if t697 = true then ((whole_Neg.f k bt653.1 bt653.2).bind fun bt698 => ((zelligeref04_Neg.f bt661.1 bt661.2).bind fun bt702 => ((zelligeref04_Same.f k bt698.1 bt698.2 bt702.1 bt702.2).bind fun t706 => (if t706 = true then ((whole_Norm.f k bt653.1 bt653.2).bind fun bt707 => ((zelligeref04_Same.f k bt707.1 bt707.2 bt661.1 bt661.2).bind fun t711 => (if t711 = true then ((zelligelaw04_lives.f k).bind fun t712 => (some t712)) else (some false)))) else (some false))))) else (some false))))) else (some false))))) else (some false))))))))) = some r := h
 clear h
 obtain ⟨⟨t653, t654⟩, A3, H⟩ := bindE H
 dsimp only at H
 obtain ⟨⟨t657, t658⟩, A4, H⟩ := bindE H
 dsimp only at H
 obtain ⟨⟨t661, t662⟩, A5, H⟩ := bindE H
 dsimp only at H
 obtain ⟨⟨t665, t666⟩, A6, H⟩ := bindE H
 dsimp only at H
 obtain ⟨⟨t671, t672⟩, A7, H⟩ := bindE H
 dsimp only at H
 obtain ⟨⟨t675, t676⟩, A8, H⟩ := bindE H
 dsimp only at H
 obtain ⟨t679, A9, H⟩ := bindE H
 by_cases c10 : t679 = true
 ·
  subst c10
  rw [if_pos rfl] at H
  obtain ⟨⟨t680, t681⟩, A11, H⟩ := bindE H
  dsimp only at H
  obtain ⟨⟨t684, t685⟩, A12, H⟩ := bindE H
  dsimp only at H
  obtain ⟨t688, A13, H⟩ := bindE H
  by_cases c14 : t688 = true
  ·
   subst c14
   rw [if_pos rfl] at H
   obtain ⟨⟨t689, t690⟩, A15, H⟩ := bindE H
   dsimp only at H
   obtain ⟨⟨t693, t694⟩, A16, H⟩ := bindE H
   dsimp only at H
   obtain ⟨t697, A17, H⟩ := bindE H
   by_cases c18 : t697 = true
   ·
    subst c18
    rw [if_pos rfl] at H
    obtain ⟨⟨t698, t699⟩, A19, H⟩ := bindE H
    dsimp only at H
    obtain ⟨⟨t702, t703⟩, A20, H⟩ := bindE H
    dsimp only at H
    obtain ⟨t706, A21, H⟩ := bindE H
    by_cases c22 : t706 = true
    ·
     subst c22
     rw [if_pos rfl] at H
     obtain ⟨⟨t707, t708⟩, A23, H⟩ := bindE H
     dsimp only at H
     obtain ⟨t711, A24, H⟩ := bindE H
     by_cases c25 : t711 = true
     ·
      subst c25
      rw [if_pos rfl] at H
      obtain ⟨t712, A26, H⟩ := bindE H
      obtain rfl := Option.some.inj H
      go_enter Try.func4, Try.ntmps4
      try go_wp2_with (first | ((with_reducible refine gate_dst (N := 2) rfl ?_); refine box_event ?hg (N := 2) ?hd (cs := #[.bool a0_0, .slice A0_1 l0_1.length c0_1]) (t := 25) ?hr ?_; (case hd => rfl); (case hg => rfl); (case hr => (go_simp; done)); intro gb651 hg w27 hbox hb; have BK651 := am hbox; have GW651 := am (gel hg HB.out); have GE651 := am (gel hg HB.out); replace HB := am (below_step HB.out hb); clear hb hbox hg) | ((with_reducible refine gate_dst (N := 3) rfl ?_); refine box_event ?hg (N := 3) ?hd (cs := #[.bool a1_0, .slice A1_1 l1_1.length c1_1]) (t := 25) ?hr ?_; (case hd => rfl); (case hg => rfl); (case hr => (go_simp; done)); intro gb652 hg w28 hbox hb; have BK652 := am hbox; have GW652 := am (gel hg HB.out); have GE652 := am (gel hg HB.out); replace HB := am (below_step HB.out hb); have NB651_652 := am (nel hg BK651.out); have NB652_651 := am (ner hg BK651.out); replace BK651 := am (blk_below BK651.out hb); clear hb hbox hg))
      replace BK651 := am (blk_drew BK651.out)
      replace BK652 := am (blk_drew BK652.out)
      replace HB := am (below_drew1 HB.out)
      refine start_ (n := 6) (S := fun w' => w'.cell? ⟨gb651, 0, none⟩ = some (.bool a0_0) ∧ w'.cell? ⟨gb651, 1, none⟩ = some (.slice A0_1 l0_1.length c0_1) ∧ w'.cell? ⟨gb652, 0, none⟩ = some (.bool a1_0) ∧ w'.cell? ⟨gb652, 1, none⟩ = some (.slice A1_1 l1_1.length c1_1)) (ds := [4, 5]) #[false, false, false, false, false, false] (by kernel_rfl) rfl rfl ⟨(blk_cell BK651.out 0).trans rfl, (blk_cell BK651.out 1).trans rfl, (blk_cell BK652.out 0).trans rfl, (blk_cell BK652.out 1).trans rfl⟩ (fun hHeld => ?_)
      generalize w28.drew = w29 at BK651 BK652 HB hHeld ⊢
      refine take_ (i := 0) (N := some 7) (v := ?_) (a' := ?_) #[true, false, false, false, false, false] rfl rfl (by kernel_rfl) (fun _ _ _ h => h) (Or.inl ⟨by rfl, ?_⟩) hHeld ?_ ?_
      rotate_left
      ·
       rintro w' ⟨s0, s1, s2, s3⟩
       go_simp
       with_reducible rfl
      rotate_left
      ·
       simp only [Act.put, sI_, s0_, s1_, i64_w, i32_w]
       rfl
      refine take_ (i := 2) (N := some 9) (v := ?_) (a' := ?_) #[true, false, true, false, false, false] rfl rfl (by kernel_rfl) (fun _ _ _ h => h) (Or.inl ⟨by rfl, ?_⟩) hHeld ?_ ?_
      rotate_left
      ·
       rintro w' ⟨s0, s1, s2, s3⟩
       go_simp
       with_reducible rfl
      rotate_left
      ·
       simp only [Act.put, sI_, s0_, s1_, i64_w, i32_w]
       rfl
      refine one_ (i := 1) (N := some 8) #[true, true, true, false, false, false] rfl rfl (by kernel_rfl) (by decide) (fun K hK => ?_)
      refine goes_ Try.func11 (by kernel_rfl) rfl #[.agg #[.bool a0_0, .slice A0_1 l0_1.length c0_1]] (by rfl) rfl rfl (by (try simp only [List.map_toArray, List.map_cons, List.map_nil]); rfl) ?_
      with_reducible refine (zelligelaw04_Short.calls a0_0 _ _ l0_1 t653 t654 _ ?side1 ?side2 A3.out).mono ?_
      (case side1 => repeat (exact (Kd.C_below HR0_1.out HB.out)))
      (case side2 => exact HC0_1.out)
      rintro e w30 ⟨v655, rfl, ho0, hb⟩
      refine ⟨_, rfl, ?_⟩
      have HO656 := am (Kd.R_lower ho0 (below_size HB.out))
      replace BK651 := am (blk_below BK651.out hb)
      replace BK652 := am (blk_below BK652.out hb)
      replace HB := am (below_step HB.out hb)
      try clear hb
      try clear ho0
      refine hK.out _ _ ⟨(blk_cell BK651.out 0).trans rfl, (blk_cell BK651.out 1).trans rfl, (blk_cell BK652.out 0).trans rfl, (blk_cell BK652.out 1).trans rfl⟩ (fun hHeld => ?_)
      clear hK K
      refine norm_ (a' := ?_) ?_ ?_
      rotate_left
      ·
       show Act.put _ (some 8) _ = _
       simp only [Act.put, sI_, s0_, s1_, i64_w, i32_w]
       rfl
      refine one_ (i := 3) (N := some 10) #[true, true, true, true, false, false] rfl rfl (by kernel_rfl) (by decide) (fun K hK => ?_)
      refine goes_ Try.func11 (by kernel_rfl) rfl #[.agg #[.bool a1_0, .slice A1_1 l1_1.length c1_1]] (by rfl) rfl rfl (by (try simp only [List.map_toArray, List.map_cons, List.map_nil]); rfl) ?_
      with_reducible refine (zelligelaw04_Short.calls a1_0 _ _ l1_1 t657 t658 _ ?side1 ?side2 A4.out).mono ?_
      (case side1 => repeat (exact (Kd.C_below HR1_1.out HB.out)))
      (case side2 => exact HC1_1.out)
      rintro e w31 ⟨v659, rfl, ho0, hb⟩
      refine ⟨_, rfl, ?_⟩
      have HO660 := am (Kd.R_lower (Kd.R_new' ho0 (Kd.R_lt HO656.out)) (below_size HB.out))
      replace HO656 := am (Kd.R_elder' HO656.out (Kd.R_base ho0) hb)
      replace BK651 := am (blk_below BK651.out hb)
      replace BK652 := am (blk_below BK652.out hb)
      replace HB := am (below_step HB.out hb)
      try clear hb
      try clear ho0
      obtain ⟨Ao33, co33, eo33⟩ := Kd.R_slice HO656.out
      (subst eo33)
      obtain ⟨Ao36, co36, eo36⟩ := Kd.R_slice HO660.out
      (subst eo36)
      refine hK.out _ _ ⟨(blk_cell BK651.out 0).trans rfl, (blk_cell BK651.out 1).trans rfl, (blk_cell BK652.out 0).trans rfl, (blk_cell BK652.out 1).trans rfl⟩ (fun hHeld => ?_)
      clear hK K
      refine norm_ (a' := ?_) ?_ ?_
      rotate_left
      ·
       show Act.put _ (some 10) _ = _
       simp only [Act.put, sI_, s0_, s1_, i64_w, i32_w]
       rfl
      refine last_ (i := 4) (N := none) #[true, true, true, true, true, false] rfl rfl (by kernel_rfl) (by decide) (fun K hK => ?_)
      have hs32 : w31.cell? ⟨gb651, 0, none⟩ = some (.bool a0_0) := (blk_cell BK651.out 0).trans rfl
      have hfs32 := blk_frozen BK651.out 0
      have hns32_1 := NB652_651.out
      have hms32_1 := NB651_652.out
      have hs34 : w31.cell? ⟨gb651, 1, none⟩ = some (.slice A0_1 l0_1.length c0_1) := (blk_cell BK651.out 1).trans rfl
      have hfs34 := blk_frozen BK651.out 1
      have hns34_1 := NB652_651.out
      have hms34_1 := NB651_652.out
      refine skip_ (w1 := ?_) (by rfl) rfl ?_ ?_
      rotate_left
      ·
       go_simp
       rfl
      refine hK.out _ _ ?_
      clear hK K
      refine last_ (i := 5) (N := none) #[true, true, true, true, true, true] rfl rfl (by kernel_rfl) (by decide) (fun K hK => ?_)
      have hs35 : w31.cell? ⟨gb652, 0, none⟩ = some (.bool a1_0) := (blk_cell BK652.out 0).trans rfl
      have hfs35 := blk_frozen BK652.out 0
      have hns35_0 := NB651_652.out
      have hms35_0 := NB652_651.out
      have hs37 : w31.cell? ⟨gb652, 1, none⟩ = some (.slice A1_1 l1_1.length c1_1) := (blk_cell BK652.out 1).trans rfl
      have hfs37 := blk_frozen BK652.out 1
      have hns37_0 := NB651_652.out
      have hms37_0 := NB652_651.out
      refine skip_ (w1 := ?_) (by rfl) rfl ?_ ?_
      rotate_left
      ·
       go_simp
       rfl
      refine hK.out _ _ ?_
      clear hK K
      refine done_ (by kernel_rfl) ?_
      try go_wp2
      have n0_ : Aside0 (Kd.R (Kd.int .u32) 78 ((((w31.setCell ⟨gb651, 0, none⟩ (.bool t653)).setCell ⟨gb651, 1, none⟩ (.slice Ao33 t654.length co33)).setCell ⟨gb652, 0, none⟩ (.bool t657)).setCell ⟨gb652, 1, none⟩ (.slice Ao36 t658.length co36)) w.heap.size (fun k_ => some k_ ≠ (.slice Ao36 t658.length co36 : Value).ownBlock) (.slice Ao33 t654.length co33) t654) := ⟨by exact Kd.R_mono (Kd.R_far (p := ⟨gb652, 1, none⟩) (Kd.R_far (p := ⟨gb652, 0, none⟩) (Kd.R_far (p := ⟨gb651, 1, none⟩) (Kd.R_far (p := ⟨gb651, 0, none⟩) (Kd.R_types (Kd.R_types HO656.out BK651.out (by decide)) BK652.out (by decide)) (fun _ hk => by exact hk.1.2) (.bool t653)) (fun _ hk => by exact hk.1.2) (.slice Ao33 t654.length co33)) (fun _ hk => by exact hk.2) (.bool t657)) (fun _ hk => by exact hk.2) (.slice Ao36 t658.length co36)) (fun _ hk => hk.1.1.2)⟩
      have n1_ : Aside0 (Kd.R (Kd.int .u32) 78 ((((w31.setCell ⟨gb651, 0, none⟩ (.bool t653)).setCell ⟨gb651, 1, none⟩ (.slice Ao33 t654.length co33)).setCell ⟨gb652, 0, none⟩ (.bool t657)).setCell ⟨gb652, 1, none⟩ (.slice Ao36 t658.length co36)) w.heap.size (fun k_ => some k_ ≠ (.slice Ao33 t654.length co33 : Value).ownBlock) (.slice Ao36 t658.length co36) t658) := ⟨by exact Kd.R_mono (Kd.R_far (p := ⟨gb652, 1, none⟩) (Kd.R_far (p := ⟨gb652, 0, none⟩) (Kd.R_far (p := ⟨gb651, 1, none⟩) (Kd.R_far (p := ⟨gb651, 0, none⟩) (Kd.R_types (Kd.R_types HO660.out BK651.out (by decide)) BK652.out (by decide)) (fun _ hk => by exact hk.1.2) (.bool t653)) (fun _ hk => by exact hk.1.2) (.slice Ao33 t654.length co33)) (fun _ hk => by exact hk.2) (.bool t657)) (fun _ hk => by exact hk.2) (.slice Ao36 t658.length co36)) (fun _ hk => hk.1.1.2)⟩
      have n2_ : Aside0 (((((w31.setCell ⟨gb651, 0, none⟩ (.bool t653)).setCell ⟨gb651, 1, none⟩ (.slice Ao33 t654.length co33)).setCell ⟨gb652, 0, none⟩ (.bool t657)).setCell ⟨gb652, 1, none⟩ (.slice Ao36 t658.length co36)).heap[gb651]? = some (.cells #[.bool t653, .slice Ao33 t654.length co33] 25 (0, 0))) := ⟨by refine blk_far ?_ NB651_652.out _; refine blk_far ?_ NB651_652.out _; refine blk_put (cs := #[.bool t653, .slice A0_1 l0_1.length c0_1]) ?_ 1 _ rfl; refine blk_put (cs := #[.bool a0_0, .slice A0_1 l0_1.length c0_1]) ?_ 0 _ rfl; exact BK651.out⟩
      have n3_ : Aside0 (((((w31.setCell ⟨gb651, 0, none⟩ (.bool t653)).setCell ⟨gb651, 1, none⟩ (.slice Ao33 t654.length co33)).setCell ⟨gb652, 0, none⟩ (.bool t657)).setCell ⟨gb652, 1, none⟩ (.slice Ao36 t658.length co36)).heap[gb652]? = some (.cells #[.bool t657, .slice Ao36 t658.length co36] 25 (0, 0))) := ⟨by refine blk_put (cs := #[.bool t657, .slice A1_1 l1_1.length c1_1]) ?_ 1 _ rfl; refine blk_put (cs := #[.bool a1_0, .slice A1_1 l1_1.length c1_1]) ?_ 0 _ rfl; refine blk_far ?_ NB652_651.out _; refine blk_far ?_ NB652_651.out _; exact BK652.out⟩
      have n4_ : Aside0 (Below w.heap.size w ((((w31.setCell ⟨gb651, 0, none⟩ (.bool t653)).setCell ⟨gb651, 1, none⟩ (.slice Ao33 t654.length co33)).setCell ⟨gb652, 0, none⟩ (.bool t657)).setCell ⟨gb652, 1, none⟩ (.slice Ao36 t658.length co36))) := ⟨by repeat ((with_reducible first | exact HB.out | refine below_set ?_ GE651.out | refine below_set ?_ GE652.out))⟩
      try clear HO656
      try clear HO660
      try clear BK651
      try clear BK652
      (try clear HB)
      generalize ((((w31.setCell ⟨gb651, 0, none⟩ (.bool t653)).setCell ⟨gb651, 1, none⟩ (.slice Ao33 t654.length co33)).setCell ⟨gb652, 0, none⟩ (.bool t657)).setCell ⟨gb652, 1, none⟩ (.slice Ao36 t658.length co36)) = w38 at n0_ n1_ n2_ n3_ n4_ ⊢
      have HO656 := n0_
      have HO660 := n1_
      have BK651 := n2_
      have BK652 := n3_
      have HB := n4_
      clear n0_ n1_ n2_ n3_ n4_
      replace HO656 := am (Kd.R_drew HO656.out)
      replace HO660 := am (Kd.R_drew HO660.out)
      replace BK651 := am (blk_drew BK651.out)
      replace BK652 := am (blk_drew BK652.out)
      replace HB := am (below_drew1 HB.out)
      refine start_ (n := 8) (S := fun w' => w'.cell? ⟨gb651, 0, none⟩ = some (.bool t653) ∧ w'.cell? ⟨gb651, 1, none⟩ = some (.slice Ao33 t654.length co33) ∧ w'.cell? ⟨gb652, 0, none⟩ = some (.bool t657) ∧ w'.cell? ⟨gb652, 1, none⟩ = some (.slice Ao36 t658.length co36)) (ds := []) #[false, false, false, false, false, false, false, false] (by kernel_rfl) rfl rfl ⟨(blk_cell BK651.out 0).trans rfl, (blk_cell BK651.out 1).trans rfl, (blk_cell BK652.out 0).trans rfl, (blk_cell BK652.out 1).trans rfl⟩ (fun hHeld => ?_); refine with_tabW zelligelaw04_WholeAdds.tab2 zelligelaw04_WholeAdds.bits2 (fun HT_ HW_ => ?_)
      generalize w38.drew = w39 at HO656 HO660 BK651 BK652 HB hHeld ⊢
      refine take_ (i := 0) (N := some 11) (v := ?_) (a' := ?_) #[true, false, false, false, false, false, false, false] rfl rfl (take_ofW HT_.out HW_.out (by kernel_rfl)) (fun _ _ _ h => h) (Or.inl ⟨by rfl, ?_⟩) hHeld ?_ ?_
      rotate_left
      ·
       rintro w' ⟨s0, s1, s2, s3⟩
       go_simp
       with_reducible rfl
      rotate_left
      ·
       simp only [Act.put, sI_, s0_, s1_, i64_w, i32_w]
       rfl
      refine take_ (i := 2) (N := some 13) (v := ?_) (a' := ?_) #[true, false, true, false, false, false, false, false] rfl rfl (take_ofW HT_.out HW_.out (by kernel_rfl)) (fun _ _ _ h => h) (Or.inl ⟨by rfl, ?_⟩) hHeld ?_ ?_
      rotate_left
      ·
       rintro w' ⟨s0, s1, s2, s3⟩
       go_simp
       with_reducible rfl
      rotate_left
      ·
       simp only [Act.put, sI_, s0_, s1_, i64_w, i32_w]
       rfl
      refine join_ (σ := Value × Value × Nat × Nat) 2 #[true, true, true, true, true, true, false, false] (fun s_ => [(12, .agg #[.int .i64 t661, s_.1]), (14, .agg #[.int .i64 t665, s_.2.1]), (5, .pointer (some ⟨s_.2.2.1, 0, none⟩)), (6, .pointer (some ⟨s_.2.2.2, 0, none⟩))]) (fun s_ w' => (w'.cell? ⟨gb651, 0, none⟩ = some (.bool t653) ∧ w'.cell? ⟨gb651, 1, none⟩ = some (.slice Ao33 t654.length co33) ∧ w'.cell? ⟨gb652, 0, none⟩ = some (.bool t657) ∧ w'.cell? ⟨gb652, 1, none⟩ = some (.slice Ao36 t658.length co36)) ∧ (Kd.R (Kd.int .u32) 78 w' w.heap.size (fun k_ => some k_ ≠ (.slice Ao36 t658.length co36 : Value).ownBlock) (.slice Ao33 t654.length co33) t654) ∧ (Kd.R (Kd.int .u32) 78 w' w.heap.size (fun k_ => some k_ ≠ (.slice Ao33 t654.length co33 : Value).ownBlock) (.slice Ao36 t658.length co36) t658) ∧ (Kd.R (Kd.int .i64) 3 w' w.heap.size (fun k_ => some k_ ≠ (s_.2.1 : Value).ownBlock) s_.1 t662) ∧ (Kd.R (Kd.int .i64) 3 w' w.heap.size (fun k_ => some k_ ≠ (s_.1 : Value).ownBlock) s_.2.1 t666) ∧ (w'.heap[gb651]? = some (.cells #[.bool t653, .slice Ao33 t654.length co33] 25 (0, 0))) ∧ (w'.heap[gb652]? = some (.cells #[.bool t657, .slice Ao36 t658.length co36] 25 (0, 0))) ∧ (w'.heap[s_.2.2.1]? = some (.cells #[.int .i64 0, .slice none 0 0] 33 (0, 0))) ∧ (w'.heap[s_.2.2.2]? = some (.cells #[.int .i64 0, .slice none 0 0] 33 (0, 0))) ∧ (w.heap.size ≤ s_.2.2.1) ∧ (w.heap.size ≤ s_.2.2.1) ∧ (gb651 ≠ s_.2.2.1) ∧ (s_.2.2.1 ≠ gb651) ∧ (gb652 ≠ s_.2.2.1) ∧ (s_.2.2.1 ≠ gb652) ∧ (s_.2.2.2 ≠ s_.2.2.1) ∧ (s_.2.2.1 ≠ s_.2.2.2) ∧ (w.heap.size ≤ s_.2.2.2) ∧ (w.heap.size ≤ s_.2.2.2) ∧ (gb651 ≠ s_.2.2.2) ∧ (s_.2.2.2 ≠ gb651) ∧ (gb652 ≠ s_.2.2.2) ∧ (s_.2.2.2 ≠ gb652) ∧ (Below w.heap.size w w')) ?_ ?_
      rotate_left
      ·
       intro hJ1_3_4_5
       refine join_ (σ := Value × Value × Nat) 3 #[true, true, true, true, true, false, false, false] (fun s_ => [(12, .agg #[.int .i64 t661, s_.1]), (14, .agg #[.int .i64 t665, s_.2.1]), (5, .pointer (some ⟨s_.2.2, 0, none⟩))]) (fun s_ w' => (w'.cell? ⟨gb651, 0, none⟩ = some (.bool t653) ∧ w'.cell? ⟨gb651, 1, none⟩ = some (.slice Ao33 t654.length co33) ∧ w'.cell? ⟨gb652, 0, none⟩ = some (.bool t657) ∧ w'.cell? ⟨gb652, 1, none⟩ = some (.slice Ao36 t658.length co36)) ∧ (Kd.R (Kd.int .u32) 78 w' w.heap.size (fun k_ => some k_ ≠ (.slice Ao36 t658.length co36 : Value).ownBlock) (.slice Ao33 t654.length co33) t654) ∧ (Kd.R (Kd.int .u32) 78 w' w.heap.size (fun k_ => some k_ ≠ (.slice Ao33 t654.length co33 : Value).ownBlock) (.slice Ao36 t658.length co36) t658) ∧ (Kd.R (Kd.int .i64) 3 w' w.heap.size (fun k_ => some k_ ≠ (s_.2.1 : Value).ownBlock) s_.1 t662) ∧ (Kd.R (Kd.int .i64) 3 w' w.heap.size (fun k_ => some k_ ≠ (s_.1 : Value).ownBlock) s_.2.1 t666) ∧ (w'.heap[gb651]? = some (.cells #[.bool t653, .slice Ao33 t654.length co33] 25 (0, 0))) ∧ (w'.heap[gb652]? = some (.cells #[.bool t657, .slice Ao36 t658.length co36] 25 (0, 0))) ∧ (w'.heap[s_.2.2]? = some (.cells #[.int .i64 0, .slice none 0 0] 33 (0, 0))) ∧ (w.heap.size ≤ s_.2.2) ∧ (w.heap.size ≤ s_.2.2) ∧ (gb651 ≠ s_.2.2) ∧ (s_.2.2 ≠ gb651) ∧ (gb652 ≠ s_.2.2) ∧ (s_.2.2 ≠ gb652) ∧ (Below w.heap.size w w')) ?_ ?_
       rotate_left
       ·
        intro hJ1_3_4
        refine join_ (σ := Value × Value × Nat) 3 #[true, true, true, true, false, true, false, false] (fun s_ => [(12, .agg #[.int .i64 t661, s_.1]), (14, .agg #[.int .i64 t665, s_.2.1]), (6, .pointer (some ⟨s_.2.2, 0, none⟩))]) (fun s_ w' => (w'.cell? ⟨gb651, 0, none⟩ = some (.bool t653) ∧ w'.cell? ⟨gb651, 1, none⟩ = some (.slice Ao33 t654.length co33) ∧ w'.cell? ⟨gb652, 0, none⟩ = some (.bool t657) ∧ w'.cell? ⟨gb652, 1, none⟩ = some (.slice Ao36 t658.length co36)) ∧ (Kd.R (Kd.int .u32) 78 w' w.heap.size (fun k_ => some k_ ≠ (.slice Ao36 t658.length co36 : Value).ownBlock) (.slice Ao33 t654.length co33) t654) ∧ (Kd.R (Kd.int .u32) 78 w' w.heap.size (fun k_ => some k_ ≠ (.slice Ao33 t654.length co33 : Value).ownBlock) (.slice Ao36 t658.length co36) t658) ∧ (Kd.R (Kd.int .i64) 3 w' w.heap.size (fun k_ => some k_ ≠ (s_.2.1 : Value).ownBlock) s_.1 t662) ∧ (Kd.R (Kd.int .i64) 3 w' w.heap.size (fun k_ => some k_ ≠ (s_.1 : Value).ownBlock) s_.2.1 t666) ∧ (w'.heap[gb651]? = some (.cells #[.bool t653, .slice Ao33 t654.length co33] 25 (0, 0))) ∧ (w'.heap[gb652]? = some (.cells #[.bool t657, .slice Ao36 t658.length co36] 25 (0, 0))) ∧ (w'.heap[s_.2.2]? = some (.cells #[.int .i64 0, .slice none 0 0] 33 (0, 0))) ∧ (w.heap.size ≤ s_.2.2) ∧ (w.heap.size ≤ s_.2.2) ∧ (gb651 ≠ s_.2.2) ∧ (s_.2.2 ≠ gb651) ∧ (gb652 ≠ s_.2.2) ∧ (s_.2.2 ≠ gb652) ∧ (Below w.heap.size w w')) ?_ ?_
        rotate_left
        ·
         intro hJ1_3_5
         refine join_ (σ := Value × Nat × Nat) 3 #[true, true, true, false, true, true, false, false] (fun s_ => [(12, .agg #[.int .i64 t661, s_.1]), (5, .pointer (some ⟨s_.2.1, 0, none⟩)), (6, .pointer (some ⟨s_.2.2, 0, none⟩))]) (fun s_ w' => (w'.cell? ⟨gb651, 0, none⟩ = some (.bool t653) ∧ w'.cell? ⟨gb651, 1, none⟩ = some (.slice Ao33 t654.length co33) ∧ w'.cell? ⟨gb652, 0, none⟩ = some (.bool t657) ∧ w'.cell? ⟨gb652, 1, none⟩ = some (.slice Ao36 t658.length co36)) ∧ (Kd.R (Kd.int .u32) 78 w' w.heap.size (fun k_ => some k_ ≠ (.slice Ao36 t658.length co36 : Value).ownBlock) (.slice Ao33 t654.length co33) t654) ∧ (Kd.R (Kd.int .u32) 78 w' w.heap.size (fun k_ => some k_ ≠ (.slice Ao33 t654.length co33 : Value).ownBlock) (.slice Ao36 t658.length co36) t658) ∧ (Kd.R (Kd.int .i64) 3 w' w.heap.size (fun _ => True) s_.1 t662) ∧ (w'.heap[gb651]? = some (.cells #[.bool t653, .slice Ao33 t654.length co33] 25 (0, 0))) ∧ (w'.heap[gb652]? = some (.cells #[.bool t657, .slice Ao36 t658.length co36] 25 (0, 0))) ∧ (w'.heap[s_.2.1]? = some (.cells #[.int .i64 0, .slice none 0 0] 33 (0, 0))) ∧ (w'.heap[s_.2.2]? = some (.cells #[.int .i64 0, .slice none 0 0] 33 (0, 0))) ∧ (w.heap.size ≤ s_.2.1) ∧ (w.heap.size ≤ s_.2.1) ∧ (gb651 ≠ s_.2.1) ∧ (s_.2.1 ≠ gb651) ∧ (gb652 ≠ s_.2.1) ∧ (s_.2.1 ≠ gb652) ∧ (s_.2.2 ≠ s_.2.1) ∧ (s_.2.1 ≠ s_.2.2) ∧ (w.heap.size ≤ s_.2.2) ∧ (w.heap.size ≤ s_.2.2) ∧ (gb651 ≠ s_.2.2) ∧ (s_.2.2 ≠ gb651) ∧ (gb652 ≠ s_.2.2) ∧ (s_.2.2 ≠ gb652) ∧ (Below w.heap.size w w')) ?_ ?_
         rotate_left
         ·
          intro hJ1_4_5
          refine join_ (σ := Value × Value) 4 #[true, true, true, true, false, false, false, false] (fun s_ => [(12, .agg #[.int .i64 t661, s_.1]), (14, .agg #[.int .i64 t665, s_.2])]) (fun s_ w' => (w'.cell? ⟨gb651, 0, none⟩ = some (.bool t653) ∧ w'.cell? ⟨gb651, 1, none⟩ = some (.slice Ao33 t654.length co33) ∧ w'.cell? ⟨gb652, 0, none⟩ = some (.bool t657) ∧ w'.cell? ⟨gb652, 1, none⟩ = some (.slice Ao36 t658.length co36)) ∧ (Kd.R (Kd.int .u32) 78 w' w.heap.size (fun k_ => some k_ ≠ (.slice Ao36 t658.length co36 : Value).ownBlock) (.slice Ao33 t654.length co33) t654) ∧ (Kd.R (Kd.int .u32) 78 w' w.heap.size (fun k_ => some k_ ≠ (.slice Ao33 t654.length co33 : Value).ownBlock) (.slice Ao36 t658.length co36) t658) ∧ (Kd.R (Kd.int .i64) 3 w' w.heap.size (fun k_ => some k_ ≠ (s_.2 : Value).ownBlock) s_.1 t662) ∧ (Kd.R (Kd.int .i64) 3 w' w.heap.size (fun k_ => some k_ ≠ (s_.1 : Value).ownBlock) s_.2 t666) ∧ (w'.heap[gb651]? = some (.cells #[.bool t653, .slice Ao33 t654.length co33] 25 (0, 0))) ∧ (w'.heap[gb652]? = some (.cells #[.bool t657, .slice Ao36 t658.length co36] 25 (0, 0))) ∧ (Below w.heap.size w w')) ?_ ?_
          rotate_left
          ·
           intro hJ1_3
           refine join_ (σ := Value × Nat) 4 #[true, true, true, false, true, false, false, false] (fun s_ => [(12, .agg #[.int .i64 t661, s_.1]), (5, .pointer (some ⟨s_.2, 0, none⟩))]) (fun s_ w' => (w'.cell? ⟨gb651, 0, none⟩ = some (.bool t653) ∧ w'.cell? ⟨gb651, 1, none⟩ = some (.slice Ao33 t654.length co33) ∧ w'.cell? ⟨gb652, 0, none⟩ = some (.bool t657) ∧ w'.cell? ⟨gb652, 1, none⟩ = some (.slice Ao36 t658.length co36)) ∧ (Kd.R (Kd.int .u32) 78 w' w.heap.size (fun k_ => some k_ ≠ (.slice Ao36 t658.length co36 : Value).ownBlock) (.slice Ao33 t654.length co33) t654) ∧ (Kd.R (Kd.int .u32) 78 w' w.heap.size (fun k_ => some k_ ≠ (.slice Ao33 t654.length co33 : Value).ownBlock) (.slice Ao36 t658.length co36) t658) ∧ (Kd.R (Kd.int .i64) 3 w' w.heap.size (fun _ => True) s_.1 t662) ∧ (w'.heap[gb651]? = some (.cells #[.bool t653, .slice Ao33 t654.length co33] 25 (0, 0))) ∧ (w'.heap[gb652]? = some (.cells #[.bool t657, .slice Ao36 t658.length co36] 25 (0, 0))) ∧ (w'.heap[s_.2]? = some (.cells #[.int .i64 0, .slice none 0 0] 33 (0, 0))) ∧ (w.heap.size ≤ s_.2) ∧ (w.heap.size ≤ s_.2) ∧ (gb651 ≠ s_.2) ∧ (s_.2 ≠ gb651) ∧ (gb652 ≠ s_.2) ∧ (s_.2 ≠ gb652) ∧ (Below w.heap.size w w')) ?_ ?_
           rotate_left
           ·
            intro hJ1_4
            refine join_ (σ := Value × Nat) 4 #[true, true, true, false, false, true, false, false] (fun s_ => [(12, .agg #[.int .i64 t661, s_.1]), (6, .pointer (some ⟨s_.2, 0, none⟩))]) (fun s_ w' => (w'.cell? ⟨gb651, 0, none⟩ = some (.bool t653) ∧ w'.cell? ⟨gb651, 1, none⟩ = some (.slice Ao33 t654.length co33) ∧ w'.cell? ⟨gb652, 0, none⟩ = some (.bool t657) ∧ w'.cell? ⟨gb652, 1, none⟩ = some (.slice Ao36 t658.length co36)) ∧ (Kd.R (Kd.int .u32) 78 w' w.heap.size (fun k_ => some k_ ≠ (.slice Ao36 t658.length co36 : Value).ownBlock) (.slice Ao33 t654.length co33) t654) ∧ (Kd.R (Kd.int .u32) 78 w' w.heap.size (fun k_ => some k_ ≠ (.slice Ao33 t654.length co33 : Value).ownBlock) (.slice Ao36 t658.length co36) t658) ∧ (Kd.R (Kd.int .i64) 3 w' w.heap.size (fun _ => True) s_.1 t662) ∧ (w'.heap[gb651]? = some (.cells #[.bool t653, .slice Ao33 t654.length co33] 25 (0, 0))) ∧ (w'.heap[gb652]? = some (.cells #[.bool t657, .slice Ao36 t658.length co36] 25 (0, 0))) ∧ (w'.heap[s_.2]? = some (.cells #[.int .i64 0, .slice none 0 0] 33 (0, 0))) ∧ (w.heap.size ≤ s_.2) ∧ (w.heap.size ≤ s_.2) ∧ (gb651 ≠ s_.2) ∧ (s_.2 ≠ gb651) ∧ (gb652 ≠ s_.2) ∧ (s_.2 ≠ gb652) ∧ (Below w.heap.size w w')) ?_ ?_
            rotate_left
            ·
             intro hJ1_5
             refine join_ (σ := Nat × Nat) 4 #[true, false, true, false, true, true, false, false] (fun s_ => [(5, .pointer (some ⟨s_.1, 0, none⟩)), (6, .pointer (some ⟨s_.2, 0, none⟩))]) (fun s_ w' => (w'.cell? ⟨gb651, 0, none⟩ = some (.bool t653) ∧ w'.cell? ⟨gb651, 1, none⟩ = some (.slice Ao33 t654.length co33) ∧ w'.cell? ⟨gb652, 0, none⟩ = some (.bool t657) ∧ w'.cell? ⟨gb652, 1, none⟩ = some (.slice Ao36 t658.length co36)) ∧ (Kd.R (Kd.int .u32) 78 w' w.heap.size (fun k_ => some k_ ≠ (.slice Ao36 t658.length co36 : Value).ownBlock) (.slice Ao33 t654.length co33) t654) ∧ (Kd.R (Kd.int .u32) 78 w' w.heap.size (fun k_ => some k_ ≠ (.slice Ao33 t654.length co33 : Value).ownBlock) (.slice Ao36 t658.length co36) t658) ∧ (w'.heap[gb651]? = some (.cells #[.bool t653, .slice Ao33 t654.length co33] 25 (0, 0))) ∧ (w'.heap[gb652]? = some (.cells #[.bool t657, .slice Ao36 t658.length co36] 25 (0, 0))) ∧ (w'.heap[s_.1]? = some (.cells #[.int .i64 0, .slice none 0 0] 33 (0, 0))) ∧ (w'.heap[s_.2]? = some (.cells #[.int .i64 0, .slice none 0 0] 33 (0, 0))) ∧ (w.heap.size ≤ s_.1) ∧ (w.heap.size ≤ s_.1) ∧ (gb651 ≠ s_.1) ∧ (s_.1 ≠ gb651) ∧ (gb652 ≠ s_.1) ∧ (s_.1 ≠ gb652) ∧ (s_.2 ≠ s_.1) ∧ (s_.1 ≠ s_.2) ∧ (w.heap.size ≤ s_.2) ∧ (w.heap.size ≤ s_.2) ∧ (gb651 ≠ s_.2) ∧ (s_.2 ≠ gb651) ∧ (gb652 ≠ s_.2) ∧ (s_.2 ≠ gb652) ∧ (Below w.heap.size w w')) ?_ ?_
             rotate_left
             ·
              intro hJ4_5
              refine join_ (σ := Value) 5 #[true, true, true, false, false, false, false, false] (fun s_ => [(12, .agg #[.int .i64 t661, s_])]) (fun s_ w' => (w'.cell? ⟨gb651, 0, none⟩ = some (.bool t653) ∧ w'.cell? ⟨gb651, 1, none⟩ = some (.slice Ao33 t654.length co33) ∧ w'.cell? ⟨gb652, 0, none⟩ = some (.bool t657) ∧ w'.cell? ⟨gb652, 1, none⟩ = some (.slice Ao36 t658.length co36)) ∧ (Kd.R (Kd.int .u32) 78 w' w.heap.size (fun k_ => some k_ ≠ (.slice Ao36 t658.length co36 : Value).ownBlock) (.slice Ao33 t654.length co33) t654) ∧ (Kd.R (Kd.int .u32) 78 w' w.heap.size (fun k_ => some k_ ≠ (.slice Ao33 t654.length co33 : Value).ownBlock) (.slice Ao36 t658.length co36) t658) ∧ (Kd.R (Kd.int .i64) 3 w' w.heap.size (fun _ => True) s_ t662) ∧ (w'.heap[gb651]? = some (.cells #[.bool t653, .slice Ao33 t654.length co33] 25 (0, 0))) ∧ (w'.heap[gb652]? = some (.cells #[.bool t657, .slice Ao36 t658.length co36] 25 (0, 0))) ∧ (Below w.heap.size w w')) ?_ ?_
              rotate_left
              ·
               intro hJ1
               refine join_ (σ := Nat) 5 #[true, false, true, false, true, false, false, false] (fun s_ => [(5, .pointer (some ⟨s_, 0, none⟩))]) (fun s_ w' => (w'.cell? ⟨gb651, 0, none⟩ = some (.bool t653) ∧ w'.cell? ⟨gb651, 1, none⟩ = some (.slice Ao33 t654.length co33) ∧ w'.cell? ⟨gb652, 0, none⟩ = some (.bool t657) ∧ w'.cell? ⟨gb652, 1, none⟩ = some (.slice Ao36 t658.length co36)) ∧ (Kd.R (Kd.int .u32) 78 w' w.heap.size (fun k_ => some k_ ≠ (.slice Ao36 t658.length co36 : Value).ownBlock) (.slice Ao33 t654.length co33) t654) ∧ (Kd.R (Kd.int .u32) 78 w' w.heap.size (fun k_ => some k_ ≠ (.slice Ao33 t654.length co33 : Value).ownBlock) (.slice Ao36 t658.length co36) t658) ∧ (w'.heap[gb651]? = some (.cells #[.bool t653, .slice Ao33 t654.length co33] 25 (0, 0))) ∧ (w'.heap[gb652]? = some (.cells #[.bool t657, .slice Ao36 t658.length co36] 25 (0, 0))) ∧ (w'.heap[s_]? = some (.cells #[.int .i64 0, .slice none 0 0] 33 (0, 0))) ∧ (w.heap.size ≤ s_) ∧ (w.heap.size ≤ s_) ∧ (gb651 ≠ s_) ∧ (s_ ≠ gb651) ∧ (gb652 ≠ s_) ∧ (s_ ≠ gb652) ∧ (Below w.heap.size w w')) ?_ ?_
               rotate_left
               ·
                intro hJ4
                refine join_ (σ := Nat) 5 #[true, false, true, false, false, true, false, false] (fun s_ => [(6, .pointer (some ⟨s_, 0, none⟩))]) (fun s_ w' => (w'.cell? ⟨gb651, 0, none⟩ = some (.bool t653) ∧ w'.cell? ⟨gb651, 1, none⟩ = some (.slice Ao33 t654.length co33) ∧ w'.cell? ⟨gb652, 0, none⟩ = some (.bool t657) ∧ w'.cell? ⟨gb652, 1, none⟩ = some (.slice Ao36 t658.length co36)) ∧ (Kd.R (Kd.int .u32) 78 w' w.heap.size (fun k_ => some k_ ≠ (.slice Ao36 t658.length co36 : Value).ownBlock) (.slice Ao33 t654.length co33) t654) ∧ (Kd.R (Kd.int .u32) 78 w' w.heap.size (fun k_ => some k_ ≠ (.slice Ao33 t654.length co33 : Value).ownBlock) (.slice Ao36 t658.length co36) t658) ∧ (w'.heap[gb651]? = some (.cells #[.bool t653, .slice Ao33 t654.length co33] 25 (0, 0))) ∧ (w'.heap[gb652]? = some (.cells #[.bool t657, .slice Ao36 t658.length co36] 25 (0, 0))) ∧ (w'.heap[s_]? = some (.cells #[.int .i64 0, .slice none 0 0] 33 (0, 0))) ∧ (w.heap.size ≤ s_) ∧ (w.heap.size ≤ s_) ∧ (gb651 ≠ s_) ∧ (s_ ≠ gb651) ∧ (gb652 ≠ s_) ∧ (s_ ≠ gb652) ∧ (Below w.heap.size w w')) ?_ ?_
                rotate_left
                ·
                 intro hJ5
                 refine three_ (i := 1) (j := 4) (k := 5) (Ni := some 12) (Nj := some 5) (Nk := some 6) #[true, true, true, false, false, false, false, false] #[true, false, true, false, true, false, false, false] #[true, false, true, false, false, true, false, false] rfl rfl rfl rfl rfl rfl (three_of HT_.out (by kernel_rfl)) (by decide) (by decide) (by decide) (fun K hK => ?_) (fun K hK => ?_) (fun K hK => ?_)
                 ·
                  skip
                  refine goes_ Try.func13 (by kernel_rfl) rfl #[.agg #[.bool t653, .slice Ao33 t654.length co33]] (by rfl) rfl rfl (by (try simp only [List.map_toArray, List.map_cons, List.map_nil]); rfl) ?_
                  with_reducible refine (zelligeref04_Of.calls k t653 _ _ t654 t661 t662 _ ?side1 ?side2 A5.out).mono ?_
                  (case side1 => exact (Kd.R_reads' HO656.out).2.2)
                  (case side2 => exact (Kd.R_reads' HO656.out).2.1)
                  rintro e w40 ⟨v663, rfl, ho0, hb⟩
                  refine ⟨_, rfl, ?_⟩
                  replace HO656 := am (Kd.R_below HO656.out hb)
                  replace HO660 := am (Kd.R_below HO660.out hb)
                  have HO664 := am (Kd.R_lower ho0 (below_size HB.out))
                  replace BK651 := am (blk_below BK651.out hb)
                  replace BK652 := am (blk_below BK652.out hb)
                  replace HB := am (below_step HB.out hb)
                  try clear hb
                  try clear ho0
                  refine hK.out _ _ ⟨(blk_cell BK651.out 0).trans rfl, (blk_cell BK651.out 1).trans rfl, (blk_cell BK652.out 0).trans rfl, (blk_cell BK652.out 1).trans rfl⟩ (fun hHeld => ?_)
                  clear hK K
                  refine norm_ (a' := ?_) ?_ ?_
                  rotate_left
                  ·
                   show Act.put _ (some 12) _ = _
                   simp only [Act.put, sI_, s0_, s1_, i64_w, i32_w]
                   rfl
                  exact norm_ (by (simp only [putAll, Act.put, sI_, s0_, s1_]; done)) (hJ1 (v663) _ ⟨hHeld, HO656.out, HO660.out, HO664.out, BK651.out, BK652.out, HB.out⟩)
                 ·
                  skip
                  refine box_step ?hg (N := 5) ?hd (cs := #[.int .i64 0, .slice none 0 0]) (t := 33) ?hr ?_; (case hd => rfl); (case hg => rfl); (case hr => (go_simp; done))
                  intro gb669 hg w40 hbox hb
                  replace HO656 := am (Kd.R_below HO656.out hb)
                  replace HO660 := am (Kd.R_below HO660.out hb)
                  have BK669 := am hbox
                  have GW669 := am (gel hg HB.out)
                  have GE669 := am (gel hg HB.out)
                  replace HB := am (below_step HB.out hb)
                  have NB651_669 := am (nel hg BK651.out)
                  have NB669_651 := am (ner hg BK651.out)
                  replace BK651 := am (blk_below BK651.out hb)
                  have NB652_669 := am (nel hg BK652.out)
                  have NB669_652 := am (ner hg BK652.out)
                  replace BK652 := am (blk_below BK652.out hb)
                  clear hb hbox hg
                  refine hK.out _ _ ⟨(blk_cell BK651.out 0).trans rfl, (blk_cell BK651.out 1).trans rfl, (blk_cell BK652.out 0).trans rfl, (blk_cell BK652.out 1).trans rfl⟩ (fun hHeld => ?_)
                  clear hK K
                  refine norm_ (a' := ?_) ?_ ?_
                  rotate_left
                  ·
                   show Act.put _ (some 5) _ = _
                   simp only [Act.put, sI_, s0_, s1_, i64_w, i32_w]
                   rfl
                  exact norm_ (by (simp only [putAll, Act.put, sI_, s0_, s1_]; done)) (hJ4 (gb669) _ ⟨hHeld, HO656.out, HO660.out, BK651.out, BK652.out, BK669.out, GW669.out, GE669.out, NB651_669.out, NB669_651.out, NB652_669.out, NB669_652.out, HB.out⟩)
                 ·
                  skip
                  refine box_step ?hg (N := 6) ?hd (cs := #[.int .i64 0, .slice none 0 0]) (t := 33) ?hr ?_; (case hd => rfl); (case hg => rfl); (case hr => (go_simp; done))
                  intro gb670 hg w40 hbox hb
                  replace HO656 := am (Kd.R_below HO656.out hb)
                  replace HO660 := am (Kd.R_below HO660.out hb)
                  have BK670 := am hbox
                  have GW670 := am (gel hg HB.out)
                  have GE670 := am (gel hg HB.out)
                  replace HB := am (below_step HB.out hb)
                  have NB651_670 := am (nel hg BK651.out)
                  have NB670_651 := am (ner hg BK651.out)
                  replace BK651 := am (blk_below BK651.out hb)
                  have NB652_670 := am (nel hg BK652.out)
                  have NB670_652 := am (ner hg BK652.out)
                  replace BK652 := am (blk_below BK652.out hb)
                  clear hb hbox hg
                  refine hK.out _ _ ⟨(blk_cell BK651.out 0).trans rfl, (blk_cell BK651.out 1).trans rfl, (blk_cell BK652.out 0).trans rfl, (blk_cell BK652.out 1).trans rfl⟩ (fun hHeld => ?_)
                  clear hK K
                  refine norm_ (a' := ?_) ?_ ?_
                  rotate_left
                  ·
                   show Act.put _ (some 6) _ = _
                   simp only [Act.put, sI_, s0_, s1_, i64_w, i32_w]
                   rfl
                  exact norm_ (by (simp only [putAll, Act.put, sI_, s0_, s1_]; done)) (hJ5 (gb670) _ ⟨hHeld, HO656.out, HO660.out, BK651.out, BK652.out, BK670.out, GW670.out, GE670.out, NB651_670.out, NB670_651.out, NB652_670.out, NB670_652.out, HB.out⟩)
                ·
                 skip
                 rintro gb670 w41 ⟨hS_, h0_, h1_, h2_, h3_, h4_, h5_, h6_, h7_, h8_, h9_, h10_, h11_⟩
                 have n0_ : Aside0 (Kd.R (Kd.int .u32) 78 w41 w.heap.size (fun k_ => some k_ ≠ (.slice Ao36 t658.length co36 : Value).ownBlock) (.slice Ao33 t654.length co33) t654) := ⟨h0_⟩
                 have n1_ : Aside0 (Kd.R (Kd.int .u32) 78 w41 w.heap.size (fun k_ => some k_ ≠ (.slice Ao33 t654.length co33 : Value).ownBlock) (.slice Ao36 t658.length co36) t658) := ⟨h1_⟩
                 have n2_ : Aside0 (w41.heap[gb651]? = some (.cells #[.bool t653, .slice Ao33 t654.length co33] 25 (0, 0))) := ⟨h2_⟩
                 have n3_ : Aside0 (w41.heap[gb652]? = some (.cells #[.bool t657, .slice Ao36 t658.length co36] 25 (0, 0))) := ⟨h3_⟩
                 have n4_ : Aside0 (w41.heap[gb670]? = some (.cells #[.int .i64 0, .slice none 0 0] 33 (0, 0))) := ⟨h4_⟩
                 have n5_ : Aside0 (w.heap.size ≤ gb670) := ⟨h5_⟩
                 have n6_ : Aside0 (w.heap.size ≤ gb670) := ⟨h6_⟩
                 have n7_ : Aside0 (gb651 ≠ gb670) := ⟨h7_⟩
                 have n8_ : Aside0 (gb670 ≠ gb651) := ⟨h8_⟩
                 have n9_ : Aside0 (gb652 ≠ gb670) := ⟨h9_⟩
                 have n10_ : Aside0 (gb670 ≠ gb652) := ⟨h10_⟩
                 have n11_ : Aside0 (Below w.heap.size w w41) := ⟨h11_⟩
                 clear HO656
                 clear HO660
                 clear BK651
                 clear BK652
                 clear HB
                 clear h0_ h1_ h2_ h3_ h4_ h5_ h6_ h7_ h8_ h9_ h10_ h11_
                 have HO656 := n0_
                 have HO660 := n1_
                 have BK651 := n2_
                 have BK652 := n3_
                 have BK670 := n4_
                 have GW670 := n5_
                 have GE670 := n6_
                 have NB651_670 := n7_
                 have NB670_651 := n8_
                 have NB652_670 := n9_
                 have NB670_652 := n10_
                 have HB := n11_
                 clear n0_ n1_ n2_ n3_ n4_ n5_ n6_ n7_ n8_ n9_ n10_ n11_
                 have hHeld : w41.cell? ⟨gb651, 0, none⟩ = some (.bool t653) ∧ w41.cell? ⟨gb651, 1, none⟩ = some (.slice Ao33 t654.length co33) ∧ w41.cell? ⟨gb652, 0, none⟩ = some (.bool t657) ∧ w41.cell? ⟨gb652, 1, none⟩ = some (.slice Ao36 t658.length co36) := hS_
                 refine norm_ (a' := ?_) ?_ ?_
                 rotate_left
                 ·
                  simp only [putAll, Act.put, sI_, s0_, s1_]
                  rfl
                 refine two_ (i := 1) (j := 4) (Ni := some 12) (Nj := some 5) #[true, true, true, false, false, true, false, false] #[true, false, true, false, true, true, false, false] rfl rfl rfl rfl (two_of HT_.out (by kernel_rfl)) (by decide) (by decide) (fun K hK => ?_) (fun K hK => ?_)
                 ·
                  skip
                  refine goes_ Try.func13 (by kernel_rfl) rfl #[.agg #[.bool t653, .slice Ao33 t654.length co33]] (by rfl) rfl rfl (by (try simp only [List.map_toArray, List.map_cons, List.map_nil]); rfl) ?_
                  with_reducible refine (zelligeref04_Of.calls k t653 _ _ t654 t661 t662 _ ?side1 ?side2 A5.out).mono ?_
                  (case side1 => exact (Kd.R_reads' HO656.out).2.2)
                  (case side2 => exact (Kd.R_reads' HO656.out).2.1)
                  rintro e w42 ⟨v663, rfl, ho0, hb⟩
                  refine ⟨_, rfl, ?_⟩
                  replace HO656 := am (Kd.R_below HO656.out hb)
                  replace HO660 := am (Kd.R_below HO660.out hb)
                  have HO664 := am (Kd.R_lower ho0 (below_size HB.out))
                  replace BK651 := am (blk_below BK651.out hb)
                  replace BK652 := am (blk_below BK652.out hb)
                  replace BK670 := am (blk_below BK670.out hb)
                  replace HB := am (below_step HB.out hb)
                  try clear hb
                  try clear ho0
                  refine hK.out _ _ ⟨(blk_cell BK651.out 0).trans rfl, (blk_cell BK651.out 1).trans rfl, (blk_cell BK652.out 0).trans rfl, (blk_cell BK652.out 1).trans rfl⟩ (fun hHeld => ?_)
                  clear hK K
                  refine norm_ (a' := ?_) ?_ ?_
                  rotate_left
                  ·
                   show Act.put _ (some 12) _ = _
                   simp only [Act.put, sI_, s0_, s1_, i64_w, i32_w]
                   rfl
                  exact norm_ (by (simp only [putAll, Act.put, sI_, s0_, s1_]; done)) (hJ1_5 (v663, gb670) _ ⟨hHeld, HO656.out, HO660.out, HO664.out, BK651.out, BK652.out, BK670.out, GW670.out, GE670.out, NB651_670.out, NB670_651.out, NB652_670.out, NB670_652.out, HB.out⟩)
                 ·
                  skip
                  refine box_step ?hg (N := 5) ?hd (cs := #[.int .i64 0, .slice none 0 0]) (t := 33) ?hr ?_; (case hd => rfl); (case hg => rfl); (case hr => (go_simp; done))
                  intro gb669 hg w42 hbox hb
                  replace HO656 := am (Kd.R_below HO656.out hb)
                  replace HO660 := am (Kd.R_below HO660.out hb)
                  have BK669 := am hbox
                  have GW669 := am (gel hg HB.out)
                  have GE669 := am (gel hg HB.out)
                  replace HB := am (below_step HB.out hb)
                  have NB651_669 := am (nel hg BK651.out)
                  have NB669_651 := am (ner hg BK651.out)
                  replace BK651 := am (blk_below BK651.out hb)
                  have NB652_669 := am (nel hg BK652.out)
                  have NB669_652 := am (ner hg BK652.out)
                  replace BK652 := am (blk_below BK652.out hb)
                  have NB670_669 := am (nel hg BK670.out)
                  have NB669_670 := am (ner hg BK670.out)
                  replace BK670 := am (blk_below BK670.out hb)
                  clear hb hbox hg
                  refine hK.out _ _ ⟨(blk_cell BK651.out 0).trans rfl, (blk_cell BK651.out 1).trans rfl, (blk_cell BK652.out 0).trans rfl, (blk_cell BK652.out 1).trans rfl⟩ (fun hHeld => ?_)
                  clear hK K
                  refine norm_ (a' := ?_) ?_ ?_
                  rotate_left
                  ·
                   show Act.put _ (some 5) _ = _
                   simp only [Act.put, sI_, s0_, s1_, i64_w, i32_w]
                   rfl
                  exact norm_ (by (simp only [putAll, Act.put, sI_, s0_, s1_]; done)) (hJ4_5 (gb669, gb670) _ ⟨hHeld, HO656.out, HO660.out, BK651.out, BK652.out, BK669.out, BK670.out, GW669.out, GE669.out, NB651_669.out, NB669_651.out, NB652_669.out, NB669_652.out, NB670_669.out, NB669_670.out, GW670.out, GE670.out, NB651_670.out, NB670_651.out, NB652_670.out, NB670_652.out, HB.out⟩)
               ·
                skip
                rintro gb669 w41 ⟨hS_, h0_, h1_, h2_, h3_, h4_, h5_, h6_, h7_, h8_, h9_, h10_, h11_⟩
                have n0_ : Aside0 (Kd.R (Kd.int .u32) 78 w41 w.heap.size (fun k_ => some k_ ≠ (.slice Ao36 t658.length co36 : Value).ownBlock) (.slice Ao33 t654.length co33) t654) := ⟨h0_⟩
                have n1_ : Aside0 (Kd.R (Kd.int .u32) 78 w41 w.heap.size (fun k_ => some k_ ≠ (.slice Ao33 t654.length co33 : Value).ownBlock) (.slice Ao36 t658.length co36) t658) := ⟨h1_⟩
                have n2_ : Aside0 (w41.heap[gb651]? = some (.cells #[.bool t653, .slice Ao33 t654.length co33] 25 (0, 0))) := ⟨h2_⟩
                have n3_ : Aside0 (w41.heap[gb652]? = some (.cells #[.bool t657, .slice Ao36 t658.length co36] 25 (0, 0))) := ⟨h3_⟩
                have n4_ : Aside0 (w41.heap[gb669]? = some (.cells #[.int .i64 0, .slice none 0 0] 33 (0, 0))) := ⟨h4_⟩
                have n5_ : Aside0 (w.heap.size ≤ gb669) := ⟨h5_⟩
                have n6_ : Aside0 (w.heap.size ≤ gb669) := ⟨h6_⟩
                have n7_ : Aside0 (gb651 ≠ gb669) := ⟨h7_⟩
                have n8_ : Aside0 (gb669 ≠ gb651) := ⟨h8_⟩
                have n9_ : Aside0 (gb652 ≠ gb669) := ⟨h9_⟩
                have n10_ : Aside0 (gb669 ≠ gb652) := ⟨h10_⟩
                have n11_ : Aside0 (Below w.heap.size w w41) := ⟨h11_⟩
                clear HO656
                clear HO660
                clear BK651
                clear BK652
                clear HB
                clear h0_ h1_ h2_ h3_ h4_ h5_ h6_ h7_ h8_ h9_ h10_ h11_
                have HO656 := n0_
                have HO660 := n1_
                have BK651 := n2_
                have BK652 := n3_
                have BK669 := n4_
                have GW669 := n5_
                have GE669 := n6_
                have NB651_669 := n7_
                have NB669_651 := n8_
                have NB652_669 := n9_
                have NB669_652 := n10_
                have HB := n11_
                clear n0_ n1_ n2_ n3_ n4_ n5_ n6_ n7_ n8_ n9_ n10_ n11_
                have hHeld : w41.cell? ⟨gb651, 0, none⟩ = some (.bool t653) ∧ w41.cell? ⟨gb651, 1, none⟩ = some (.slice Ao33 t654.length co33) ∧ w41.cell? ⟨gb652, 0, none⟩ = some (.bool t657) ∧ w41.cell? ⟨gb652, 1, none⟩ = some (.slice Ao36 t658.length co36) := hS_
                refine norm_ (a' := ?_) ?_ ?_
                rotate_left
                ·
                 simp only [putAll, Act.put, sI_, s0_, s1_]
                 rfl
                refine two_ (i := 1) (j := 5) (Ni := some 12) (Nj := some 6) #[true, true, true, false, true, false, false, false] #[true, false, true, false, true, true, false, false] rfl rfl rfl rfl (two_of HT_.out (by kernel_rfl)) (by decide) (by decide) (fun K hK => ?_) (fun K hK => ?_)
                ·
                 skip
                 refine goes_ Try.func13 (by kernel_rfl) rfl #[.agg #[.bool t653, .slice Ao33 t654.length co33]] (by rfl) rfl rfl (by (try simp only [List.map_toArray, List.map_cons, List.map_nil]); rfl) ?_
                 with_reducible refine (zelligeref04_Of.calls k t653 _ _ t654 t661 t662 _ ?side1 ?side2 A5.out).mono ?_
                 (case side1 => exact (Kd.R_reads' HO656.out).2.2)
                 (case side2 => exact (Kd.R_reads' HO656.out).2.1)
                 rintro e w42 ⟨v663, rfl, ho0, hb⟩
                 refine ⟨_, rfl, ?_⟩
                 replace HO656 := am (Kd.R_below HO656.out hb)
                 replace HO660 := am (Kd.R_below HO660.out hb)
                 have HO664 := am (Kd.R_lower ho0 (below_size HB.out))
                 replace BK651 := am (blk_below BK651.out hb)
                 replace BK652 := am (blk_below BK652.out hb)
                 replace BK669 := am (blk_below BK669.out hb)
                 replace HB := am (below_step HB.out hb)
                 try clear hb
                 try clear ho0
                 refine hK.out _ _ ⟨(blk_cell BK651.out 0).trans rfl, (blk_cell BK651.out 1).trans rfl, (blk_cell BK652.out 0).trans rfl, (blk_cell BK652.out 1).trans rfl⟩ (fun hHeld => ?_)
                 clear hK K
                 refine norm_ (a' := ?_) ?_ ?_
                 rotate_left
                 ·
                  show Act.put _ (some 12) _ = _
                  simp only [Act.put, sI_, s0_, s1_, i64_w, i32_w]
                  rfl
                 exact norm_ (by (simp only [putAll, Act.put, sI_, s0_, s1_]; done)) (hJ1_4 (v663, gb669) _ ⟨hHeld, HO656.out, HO660.out, HO664.out, BK651.out, BK652.out, BK669.out, GW669.out, GE669.out, NB651_669.out, NB669_651.out, NB652_669.out, NB669_652.out, HB.out⟩)
                ·
                 skip
                 refine box_step ?hg (N := 6) ?hd (cs := #[.int .i64 0, .slice none 0 0]) (t := 33) ?hr ?_; (case hd => rfl); (case hg => rfl); (case hr => (go_simp; done))
                 intro gb670 hg w42 hbox hb
                 replace HO656 := am (Kd.R_below HO656.out hb)
                 replace HO660 := am (Kd.R_below HO660.out hb)
                 have BK670 := am hbox
                 have GW670 := am (gel hg HB.out)
                 have GE670 := am (gel hg HB.out)
                 replace HB := am (below_step HB.out hb)
                 have NB651_670 := am (nel hg BK651.out)
                 have NB670_651 := am (ner hg BK651.out)
                 replace BK651 := am (blk_below BK651.out hb)
                 have NB652_670 := am (nel hg BK652.out)
                 have NB670_652 := am (ner hg BK652.out)
                 replace BK652 := am (blk_below BK652.out hb)
                 have NB669_670 := am (nel hg BK669.out)
                 have NB670_669 := am (ner hg BK669.out)
                 replace BK669 := am (blk_below BK669.out hb)
                 clear hb hbox hg
                 refine hK.out _ _ ⟨(blk_cell BK651.out 0).trans rfl, (blk_cell BK651.out 1).trans rfl, (blk_cell BK652.out 0).trans rfl, (blk_cell BK652.out 1).trans rfl⟩ (fun hHeld => ?_)
                 clear hK K
                 refine norm_ (a' := ?_) ?_ ?_
                 rotate_left
                 ·
                  show Act.put _ (some 6) _ = _
                  simp only [Act.put, sI_, s0_, s1_, i64_w, i32_w]
                  rfl
                 exact norm_ (by (simp only [putAll, Act.put, sI_, s0_, s1_]; done)) (hJ4_5 (gb669, gb670) _ ⟨hHeld, HO656.out, HO660.out, BK651.out, BK652.out, BK669.out, BK670.out, GW669.out, GE669.out, NB651_669.out, NB669_651.out, NB652_669.out, NB669_652.out, NB670_669.out, NB669_670.out, GW670.out, GE670.out, NB651_670.out, NB670_651.out, NB652_670.out, NB670_652.out, HB.out⟩)
              ·
               skip
               rintro v663 w41 ⟨hS_, h0_, h1_, h2_, h3_, h4_, h5_⟩
               have n0_ : Aside0 (Kd.R (Kd.int .u32) 78 w41 w.heap.size (fun k_ => some k_ ≠ (.slice Ao36 t658.length co36 : Value).ownBlock) (.slice Ao33 t654.length co33) t654) := ⟨h0_⟩
               have n1_ : Aside0 (Kd.R (Kd.int .u32) 78 w41 w.heap.size (fun k_ => some k_ ≠ (.slice Ao33 t654.length co33 : Value).ownBlock) (.slice Ao36 t658.length co36) t658) := ⟨h1_⟩
               have n2_ : Aside0 (Kd.R (Kd.int .i64) 3 w41 w.heap.size (fun _ => True) v663 t662) := ⟨h2_⟩
               have n3_ : Aside0 (w41.heap[gb651]? = some (.cells #[.bool t653, .slice Ao33 t654.length co33] 25 (0, 0))) := ⟨h3_⟩
               have n4_ : Aside0 (w41.heap[gb652]? = some (.cells #[.bool t657, .slice Ao36 t658.length co36] 25 (0, 0))) := ⟨h4_⟩
               have n5_ : Aside0 (Below w.heap.size w w41) := ⟨h5_⟩
               clear HO656
               clear HO660
               clear BK651
               clear BK652
               clear HB
               clear h0_ h1_ h2_ h3_ h4_ h5_
               have HO656 := n0_
               have HO660 := n1_
               have HO664 := n2_
               have BK651 := n3_
               have BK652 := n4_
               have HB := n5_
               clear n0_ n1_ n2_ n3_ n4_ n5_
               have hHeld : w41.cell? ⟨gb651, 0, none⟩ = some (.bool t653) ∧ w41.cell? ⟨gb651, 1, none⟩ = some (.slice Ao33 t654.length co33) ∧ w41.cell? ⟨gb652, 0, none⟩ = some (.bool t657) ∧ w41.cell? ⟨gb652, 1, none⟩ = some (.slice Ao36 t658.length co36) := hS_
               refine norm_ (a' := ?_) ?_ ?_
               rotate_left
               ·
                simp only [putAll, Act.put, sI_, s0_, s1_]
                rfl
               refine three_ (i := 3) (j := 4) (k := 5) (Ni := some 14) (Nj := some 5) (Nk := some 6) #[true, true, true, true, false, false, false, false] #[true, true, true, false, true, false, false, false] #[true, true, true, false, false, true, false, false] rfl rfl rfl rfl rfl rfl (three_of HT_.out (by kernel_rfl)) (by decide) (by decide) (by decide) (fun K hK => ?_) (fun K hK => ?_) (fun K hK => ?_)
               ·
                skip
                refine goes_ Try.func13 (by kernel_rfl) rfl #[.agg #[.bool t657, .slice Ao36 t658.length co36]] (by rfl) rfl rfl (by (try simp only [List.map_toArray, List.map_cons, List.map_nil]); rfl) ?_
                with_reducible refine (zelligeref04_Of.calls k t657 _ _ t658 t665 t666 _ ?side1 ?side2 A6.out).mono ?_
                (case side1 => exact (Kd.R_reads' HO660.out).2.2)
                (case side2 => exact (Kd.R_reads' HO660.out).2.1)
                rintro e w42 ⟨v667, rfl, ho0, hb⟩
                refine ⟨_, rfl, ?_⟩
                replace HO656 := am (Kd.R_below HO656.out hb)
                replace HO660 := am (Kd.R_below HO660.out hb)
                have HO668 := am (Kd.R_lower (Kd.R_new' ho0 (Kd.R_lt HO664.out)) (below_size HB.out))
                replace HO664 := am (Kd.R_elder' HO664.out (Kd.R_base ho0) hb)
                replace BK651 := am (blk_below BK651.out hb)
                replace BK652 := am (blk_below BK652.out hb)
                replace HB := am (below_step HB.out hb)
                try clear hb
                try clear ho0
                refine hK.out _ _ ⟨(blk_cell BK651.out 0).trans rfl, (blk_cell BK651.out 1).trans rfl, (blk_cell BK652.out 0).trans rfl, (blk_cell BK652.out 1).trans rfl⟩ (fun hHeld => ?_)
                clear hK K
                refine norm_ (a' := ?_) ?_ ?_
                rotate_left
                ·
                 show Act.put _ (some 14) _ = _
                 simp only [Act.put, sI_, s0_, s1_, i64_w, i32_w]
                 rfl
                exact norm_ (by (simp only [putAll, Act.put, sI_, s0_, s1_]; done)) (hJ1_3 (v663, v667) _ ⟨hHeld, HO656.out, HO660.out, (by exact Kd.R_mono HO664.out (fun _ hk => by exact hk.2)), (by exact Kd.R_mono HO668.out (fun _ hk => by exact hk.2)), BK651.out, BK652.out, HB.out⟩)
               ·
                skip
                refine box_step ?hg (N := 5) ?hd (cs := #[.int .i64 0, .slice none 0 0]) (t := 33) ?hr ?_; (case hd => rfl); (case hg => rfl); (case hr => (go_simp; done))
                intro gb669 hg w42 hbox hb
                replace HO656 := am (Kd.R_below HO656.out hb)
                replace HO660 := am (Kd.R_below HO660.out hb)
                replace HO664 := am (Kd.R_below HO664.out hb)
                have BK669 := am hbox
                have GW669 := am (gel hg HB.out)
                have GE669 := am (gel hg HB.out)
                replace HB := am (below_step HB.out hb)
                have NB651_669 := am (nel hg BK651.out)
                have NB669_651 := am (ner hg BK651.out)
                replace BK651 := am (blk_below BK651.out hb)
                have NB652_669 := am (nel hg BK652.out)
                have NB669_652 := am (ner hg BK652.out)
                replace BK652 := am (blk_below BK652.out hb)
                clear hb hbox hg
                refine hK.out _ _ ⟨(blk_cell BK651.out 0).trans rfl, (blk_cell BK651.out 1).trans rfl, (blk_cell BK652.out 0).trans rfl, (blk_cell BK652.out 1).trans rfl⟩ (fun hHeld => ?_)
                clear hK K
                refine norm_ (a' := ?_) ?_ ?_
                rotate_left
                ·
                 show Act.put _ (some 5) _ = _
                 simp only [Act.put, sI_, s0_, s1_, i64_w, i32_w]
                 rfl
                exact norm_ (by (simp only [putAll, Act.put, sI_, s0_, s1_]; done)) (hJ1_4 (v663, gb669) _ ⟨hHeld, HO656.out, HO660.out, HO664.out, BK651.out, BK652.out, BK669.out, GW669.out, GE669.out, NB651_669.out, NB669_651.out, NB652_669.out, NB669_652.out, HB.out⟩)
               ·
                skip
                refine box_step ?hg (N := 6) ?hd (cs := #[.int .i64 0, .slice none 0 0]) (t := 33) ?hr ?_; (case hd => rfl); (case hg => rfl); (case hr => (go_simp; done))
                intro gb670 hg w42 hbox hb
                replace HO656 := am (Kd.R_below HO656.out hb)
                replace HO660 := am (Kd.R_below HO660.out hb)
                replace HO664 := am (Kd.R_below HO664.out hb)
                have BK670 := am hbox
                have GW670 := am (gel hg HB.out)
                have GE670 := am (gel hg HB.out)
                replace HB := am (below_step HB.out hb)
                have NB651_670 := am (nel hg BK651.out)
                have NB670_651 := am (ner hg BK651.out)
                replace BK651 := am (blk_below BK651.out hb)
                have NB652_670 := am (nel hg BK652.out)
                have NB670_652 := am (ner hg BK652.out)
                replace BK652 := am (blk_below BK652.out hb)
                clear hb hbox hg
                refine hK.out _ _ ⟨(blk_cell BK651.out 0).trans rfl, (blk_cell BK651.out 1).trans rfl, (blk_cell BK652.out 0).trans rfl, (blk_cell BK652.out 1).trans rfl⟩ (fun hHeld => ?_)
                clear hK K
                refine norm_ (a' := ?_) ?_ ?_
                rotate_left
                ·
                 show Act.put _ (some 6) _ = _
                 simp only [Act.put, sI_, s0_, s1_, i64_w, i32_w]
                 rfl
                exact norm_ (by (simp only [putAll, Act.put, sI_, s0_, s1_]; done)) (hJ1_5 (v663, gb670) _ ⟨hHeld, HO656.out, HO660.out, HO664.out, BK651.out, BK652.out, BK670.out, GW670.out, GE670.out, NB651_670.out, NB670_651.out, NB652_670.out, NB670_652.out, HB.out⟩)
             ·
              skip
              rintro ⟨gb669, gb670⟩ w42 ⟨hS_, h0_, h1_, h2_, h3_, h4_, h5_, h6_, h7_, h8_, h9_, h10_, h11_, h12_, h13_, h14_, h15_, h16_, h17_, h18_, h19_, h20_⟩
              have n0_ : Aside0 (Kd.R (Kd.int .u32) 78 w42 w.heap.size (fun k_ => some k_ ≠ (.slice Ao36 t658.length co36 : Value).ownBlock) (.slice Ao33 t654.length co33) t654) := ⟨h0_⟩
              have n1_ : Aside0 (Kd.R (Kd.int .u32) 78 w42 w.heap.size (fun k_ => some k_ ≠ (.slice Ao33 t654.length co33 : Value).ownBlock) (.slice Ao36 t658.length co36) t658) := ⟨h1_⟩
              have n2_ : Aside0 (w42.heap[gb651]? = some (.cells #[.bool t653, .slice Ao33 t654.length co33] 25 (0, 0))) := ⟨h2_⟩
              have n3_ : Aside0 (w42.heap[gb652]? = some (.cells #[.bool t657, .slice Ao36 t658.length co36] 25 (0, 0))) := ⟨h3_⟩
              have n4_ : Aside0 (w42.heap[gb669]? = some (.cells #[.int .i64 0, .slice none 0 0] 33 (0, 0))) := ⟨h4_⟩
              have n5_ : Aside0 (w42.heap[gb670]? = some (.cells #[.int .i64 0, .slice none 0 0] 33 (0, 0))) := ⟨h5_⟩
              have n6_ : Aside0 (w.heap.size ≤ gb669) := ⟨h6_⟩
              have n7_ : Aside0 (w.heap.size ≤ gb669) := ⟨h7_⟩
              have n8_ : Aside0 (gb651 ≠ gb669) := ⟨h8_⟩
              have n9_ : Aside0 (gb669 ≠ gb651) := ⟨h9_⟩
              have n10_ : Aside0 (gb652 ≠ gb669) := ⟨h10_⟩
              have n11_ : Aside0 (gb669 ≠ gb652) := ⟨h11_⟩
              have n12_ : Aside0 (gb670 ≠ gb669) := ⟨h12_⟩
              have n13_ : Aside0 (gb669 ≠ gb670) := ⟨h13_⟩
              have n14_ : Aside0 (w.heap.size ≤ gb670) := ⟨h14_⟩
              have n15_ : Aside0 (w.heap.size ≤ gb670) := ⟨h15_⟩
              have n16_ : Aside0 (gb651 ≠ gb670) := ⟨h16_⟩
              have n17_ : Aside0 (gb670 ≠ gb651) := ⟨h17_⟩
              have n18_ : Aside0 (gb652 ≠ gb670) := ⟨h18_⟩
              have n19_ : Aside0 (gb670 ≠ gb652) := ⟨h19_⟩
              have n20_ : Aside0 (Below w.heap.size w w42) := ⟨h20_⟩
              clear HO656
              clear HO660
              clear BK651
              clear BK652
              clear HB
              clear h0_ h1_ h2_ h3_ h4_ h5_ h6_ h7_ h8_ h9_ h10_ h11_ h12_ h13_ h14_ h15_ h16_ h17_ h18_ h19_ h20_
              have HO656 := n0_
              have HO660 := n1_
              have BK651 := n2_
              have BK652 := n3_
              have BK669 := n4_
              have BK670 := n5_
              have GW669 := n6_
              have GE669 := n7_
              have NB651_669 := n8_
              have NB669_651 := n9_
              have NB652_669 := n10_
              have NB669_652 := n11_
              have NB670_669 := n12_
              have NB669_670 := n13_
              have GW670 := n14_
              have GE670 := n15_
              have NB651_670 := n16_
              have NB670_651 := n17_
              have NB652_670 := n18_
              have NB670_652 := n19_
              have HB := n20_
              clear n0_ n1_ n2_ n3_ n4_ n5_ n6_ n7_ n8_ n9_ n10_ n11_ n12_ n13_ n14_ n15_ n16_ n17_ n18_ n19_ n20_
              have hHeld : w42.cell? ⟨gb651, 0, none⟩ = some (.bool t653) ∧ w42.cell? ⟨gb651, 1, none⟩ = some (.slice Ao33 t654.length co33) ∧ w42.cell? ⟨gb652, 0, none⟩ = some (.bool t657) ∧ w42.cell? ⟨gb652, 1, none⟩ = some (.slice Ao36 t658.length co36) := hS_
              refine norm_ (a' := ?_) ?_ ?_
              rotate_left
              ·
               simp only [putAll, Act.put, sI_, s0_, s1_]
               rfl
              refine one_ (i := 1) (N := some 12) #[true, true, true, false, true, true, false, false] rfl rfl (one_of HT_.out (by kernel_rfl)) (by decide) (fun K hK => ?_)
              refine goes_ Try.func13 (by kernel_rfl) rfl #[.agg #[.bool t653, .slice Ao33 t654.length co33]] (by rfl) rfl rfl (by (try simp only [List.map_toArray, List.map_cons, List.map_nil]); rfl) ?_
              with_reducible refine (zelligeref04_Of.calls k t653 _ _ t654 t661 t662 _ ?side1 ?side2 A5.out).mono ?_
              (case side1 => exact (Kd.R_reads' HO656.out).2.2)
              (case side2 => exact (Kd.R_reads' HO656.out).2.1)
              rintro e w43 ⟨v663, rfl, ho0, hb⟩
              refine ⟨_, rfl, ?_⟩
              replace HO656 := am (Kd.R_below HO656.out hb)
              replace HO660 := am (Kd.R_below HO660.out hb)
              have HO664 := am (Kd.R_lower ho0 (below_size HB.out))
              replace BK651 := am (blk_below BK651.out hb)
              replace BK652 := am (blk_below BK652.out hb)
              replace BK669 := am (blk_below BK669.out hb)
              replace BK670 := am (blk_below BK670.out hb)
              replace HB := am (below_step HB.out hb)
              try clear hb
              try clear ho0
              refine hK.out _ _ ⟨(blk_cell BK651.out 0).trans rfl, (blk_cell BK651.out 1).trans rfl, (blk_cell BK652.out 0).trans rfl, (blk_cell BK652.out 1).trans rfl⟩ (fun hHeld => ?_)
              clear hK K
              refine norm_ (a' := ?_) ?_ ?_
              rotate_left
              ·
               show Act.put _ (some 12) _ = _
               simp only [Act.put, sI_, s0_, s1_, i64_w, i32_w]
               rfl
              exact norm_ (by (simp only [putAll, Act.put, sI_, s0_, s1_]; done)) (hJ1_4_5 (v663, gb669, gb670) _ ⟨hHeld, HO656.out, HO660.out, HO664.out, BK651.out, BK652.out, BK669.out, BK670.out, GW669.out, GE669.out, NB651_669.out, NB669_651.out, NB652_669.out, NB669_652.out, NB670_669.out, NB669_670.out, GW670.out, GE670.out, NB651_670.out, NB670_651.out, NB652_670.out, NB670_652.out, HB.out⟩)
            ·
             skip
             rintro ⟨v663, gb670⟩ w42 ⟨hS_, h0_, h1_, h2_, h3_, h4_, h5_, h6_, h7_, h8_, h9_, h10_, h11_, h12_⟩
             have n0_ : Aside0 (Kd.R (Kd.int .u32) 78 w42 w.heap.size (fun k_ => some k_ ≠ (.slice Ao36 t658.length co36 : Value).ownBlock) (.slice Ao33 t654.length co33) t654) := ⟨h0_⟩
             have n1_ : Aside0 (Kd.R (Kd.int .u32) 78 w42 w.heap.size (fun k_ => some k_ ≠ (.slice Ao33 t654.length co33 : Value).ownBlock) (.slice Ao36 t658.length co36) t658) := ⟨h1_⟩
             have n2_ : Aside0 (Kd.R (Kd.int .i64) 3 w42 w.heap.size (fun _ => True) v663 t662) := ⟨h2_⟩
             have n3_ : Aside0 (w42.heap[gb651]? = some (.cells #[.bool t653, .slice Ao33 t654.length co33] 25 (0, 0))) := ⟨h3_⟩
             have n4_ : Aside0 (w42.heap[gb652]? = some (.cells #[.bool t657, .slice Ao36 t658.length co36] 25 (0, 0))) := ⟨h4_⟩
             have n5_ : Aside0 (w42.heap[gb670]? = some (.cells #[.int .i64 0, .slice none 0 0] 33 (0, 0))) := ⟨h5_⟩
             have n6_ : Aside0 (w.heap.size ≤ gb670) := ⟨h6_⟩
             have n7_ : Aside0 (w.heap.size ≤ gb670) := ⟨h7_⟩
             have n8_ : Aside0 (gb651 ≠ gb670) := ⟨h8_⟩
             have n9_ : Aside0 (gb670 ≠ gb651) := ⟨h9_⟩
             have n10_ : Aside0 (gb652 ≠ gb670) := ⟨h10_⟩
             have n11_ : Aside0 (gb670 ≠ gb652) := ⟨h11_⟩
             have n12_ : Aside0 (Below w.heap.size w w42) := ⟨h12_⟩
             clear HO656
             clear HO660
             clear BK651
             clear BK652
             clear HB
             clear h0_ h1_ h2_ h3_ h4_ h5_ h6_ h7_ h8_ h9_ h10_ h11_ h12_
             have HO656 := n0_
             have HO660 := n1_
             have HO664 := n2_
             have BK651 := n3_
             have BK652 := n4_
             have BK670 := n5_
             have GW670 := n6_
             have GE670 := n7_
             have NB651_670 := n8_
             have NB670_651 := n9_
             have NB652_670 := n10_
             have NB670_652 := n11_
             have HB := n12_
             clear n0_ n1_ n2_ n3_ n4_ n5_ n6_ n7_ n8_ n9_ n10_ n11_ n12_
             have hHeld : w42.cell? ⟨gb651, 0, none⟩ = some (.bool t653) ∧ w42.cell? ⟨gb651, 1, none⟩ = some (.slice Ao33 t654.length co33) ∧ w42.cell? ⟨gb652, 0, none⟩ = some (.bool t657) ∧ w42.cell? ⟨gb652, 1, none⟩ = some (.slice Ao36 t658.length co36) := hS_
             refine norm_ (a' := ?_) ?_ ?_
             rotate_left
             ·
              simp only [putAll, Act.put, sI_, s0_, s1_]
              rfl
             refine two_ (i := 3) (j := 4) (Ni := some 14) (Nj := some 5) #[true, true, true, true, false, true, false, false] #[true, true, true, false, true, true, false, false] rfl rfl rfl rfl (two_of HT_.out (by kernel_rfl)) (by decide) (by decide) (fun K hK => ?_) (fun K hK => ?_)
             ·
              skip
              refine goes_ Try.func13 (by kernel_rfl) rfl #[.agg #[.bool t657, .slice Ao36 t658.length co36]] (by rfl) rfl rfl (by (try simp only [List.map_toArray, List.map_cons, List.map_nil]); rfl) ?_
              with_reducible refine (zelligeref04_Of.calls k t657 _ _ t658 t665 t666 _ ?side1 ?side2 A6.out).mono ?_
              (case side1 => exact (Kd.R_reads' HO660.out).2.2)
              (case side2 => exact (Kd.R_reads' HO660.out).2.1)
              rintro e w43 ⟨v667, rfl, ho0, hb⟩
              refine ⟨_, rfl, ?_⟩
              replace HO656 := am (Kd.R_below HO656.out hb)
              replace HO660 := am (Kd.R_below HO660.out hb)
              have HO668 := am (Kd.R_lower (Kd.R_new' ho0 (Kd.R_lt HO664.out)) (below_size HB.out))
              replace HO664 := am (Kd.R_elder' HO664.out (Kd.R_base ho0) hb)
              replace BK651 := am (blk_below BK651.out hb)
              replace BK652 := am (blk_below BK652.out hb)
              replace BK670 := am (blk_below BK670.out hb)
              replace HB := am (below_step HB.out hb)
              try clear hb
              try clear ho0
              refine hK.out _ _ ⟨(blk_cell BK651.out 0).trans rfl, (blk_cell BK651.out 1).trans rfl, (blk_cell BK652.out 0).trans rfl, (blk_cell BK652.out 1).trans rfl⟩ (fun hHeld => ?_)
              clear hK K
              refine norm_ (a' := ?_) ?_ ?_
              rotate_left
              ·
               show Act.put _ (some 14) _ = _
               simp only [Act.put, sI_, s0_, s1_, i64_w, i32_w]
               rfl
              exact norm_ (by (simp only [putAll, Act.put, sI_, s0_, s1_]; done)) (hJ1_3_5 (v663, v667, gb670) _ ⟨hHeld, HO656.out, HO660.out, (by exact Kd.R_mono HO664.out (fun _ hk => by exact hk.2)), (by exact Kd.R_mono HO668.out (fun _ hk => by exact hk.2)), BK651.out, BK652.out, BK670.out, GW670.out, GE670.out, NB651_670.out, NB670_651.out, NB652_670.out, NB670_652.out, HB.out⟩)
             ·
              skip
              refine box_step ?hg (N := 5) ?hd (cs := #[.int .i64 0, .slice none 0 0]) (t := 33) ?hr ?_; (case hd => rfl); (case hg => rfl); (case hr => (go_simp; done))
              intro gb669 hg w43 hbox hb
              replace HO656 := am (Kd.R_below HO656.out hb)
              replace HO660 := am (Kd.R_below HO660.out hb)
              replace HO664 := am (Kd.R_below HO664.out hb)
              have BK669 := am hbox
              have GW669 := am (gel hg HB.out)
              have GE669 := am (gel hg HB.out)
              replace HB := am (below_step HB.out hb)
              have NB651_669 := am (nel hg BK651.out)
              have NB669_651 := am (ner hg BK651.out)
              replace BK651 := am (blk_below BK651.out hb)
              have NB652_669 := am (nel hg BK652.out)
              have NB669_652 := am (ner hg BK652.out)
              replace BK652 := am (blk_below BK652.out hb)
              have NB670_669 := am (nel hg BK670.out)
              have NB669_670 := am (ner hg BK670.out)
              replace BK670 := am (blk_below BK670.out hb)
              clear hb hbox hg
              refine hK.out _ _ ⟨(blk_cell BK651.out 0).trans rfl, (blk_cell BK651.out 1).trans rfl, (blk_cell BK652.out 0).trans rfl, (blk_cell BK652.out 1).trans rfl⟩ (fun hHeld => ?_)
              clear hK K
              refine norm_ (a' := ?_) ?_ ?_
              rotate_left
              ·
               show Act.put _ (some 5) _ = _
               simp only [Act.put, sI_, s0_, s1_, i64_w, i32_w]
               rfl
              exact norm_ (by (simp only [putAll, Act.put, sI_, s0_, s1_]; done)) (hJ1_4_5 (v663, gb669, gb670) _ ⟨hHeld, HO656.out, HO660.out, HO664.out, BK651.out, BK652.out, BK669.out, BK670.out, GW669.out, GE669.out, NB651_669.out, NB669_651.out, NB652_669.out, NB669_652.out, NB670_669.out, NB669_670.out, GW670.out, GE670.out, NB651_670.out, NB670_651.out, NB652_670.out, NB670_652.out, HB.out⟩)
           ·
            skip
            rintro ⟨v663, gb669⟩ w42 ⟨hS_, h0_, h1_, h2_, h3_, h4_, h5_, h6_, h7_, h8_, h9_, h10_, h11_, h12_⟩
            have n0_ : Aside0 (Kd.R (Kd.int .u32) 78 w42 w.heap.size (fun k_ => some k_ ≠ (.slice Ao36 t658.length co36 : Value).ownBlock) (.slice Ao33 t654.length co33) t654) := ⟨h0_⟩
            have n1_ : Aside0 (Kd.R (Kd.int .u32) 78 w42 w.heap.size (fun k_ => some k_ ≠ (.slice Ao33 t654.length co33 : Value).ownBlock) (.slice Ao36 t658.length co36) t658) := ⟨h1_⟩
            have n2_ : Aside0 (Kd.R (Kd.int .i64) 3 w42 w.heap.size (fun _ => True) v663 t662) := ⟨h2_⟩
            have n3_ : Aside0 (w42.heap[gb651]? = some (.cells #[.bool t653, .slice Ao33 t654.length co33] 25 (0, 0))) := ⟨h3_⟩
            have n4_ : Aside0 (w42.heap[gb652]? = some (.cells #[.bool t657, .slice Ao36 t658.length co36] 25 (0, 0))) := ⟨h4_⟩
            have n5_ : Aside0 (w42.heap[gb669]? = some (.cells #[.int .i64 0, .slice none 0 0] 33 (0, 0))) := ⟨h5_⟩
            have n6_ : Aside0 (w.heap.size ≤ gb669) := ⟨h6_⟩
            have n7_ : Aside0 (w.heap.size ≤ gb669) := ⟨h7_⟩
            have n8_ : Aside0 (gb651 ≠ gb669) := ⟨h8_⟩
            have n9_ : Aside0 (gb669 ≠ gb651) := ⟨h9_⟩
            have n10_ : Aside0 (gb652 ≠ gb669) := ⟨h10_⟩
            have n11_ : Aside0 (gb669 ≠ gb652) := ⟨h11_⟩
            have n12_ : Aside0 (Below w.heap.size w w42) := ⟨h12_⟩
            clear HO656
            clear HO660
            clear BK651
            clear BK652
            clear HB
            clear h0_ h1_ h2_ h3_ h4_ h5_ h6_ h7_ h8_ h9_ h10_ h11_ h12_
            have HO656 := n0_
            have HO660 := n1_
            have HO664 := n2_
            have BK651 := n3_
            have BK652 := n4_
            have BK669 := n5_
            have GW669 := n6_
            have GE669 := n7_
            have NB651_669 := n8_
            have NB669_651 := n9_
            have NB652_669 := n10_
            have NB669_652 := n11_
            have HB := n12_
            clear n0_ n1_ n2_ n3_ n4_ n5_ n6_ n7_ n8_ n9_ n10_ n11_ n12_
            have hHeld : w42.cell? ⟨gb651, 0, none⟩ = some (.bool t653) ∧ w42.cell? ⟨gb651, 1, none⟩ = some (.slice Ao33 t654.length co33) ∧ w42.cell? ⟨gb652, 0, none⟩ = some (.bool t657) ∧ w42.cell? ⟨gb652, 1, none⟩ = some (.slice Ao36 t658.length co36) := hS_
            refine norm_ (a' := ?_) ?_ ?_
            rotate_left
            ·
             simp only [putAll, Act.put, sI_, s0_, s1_]
             rfl
            refine two_ (i := 3) (j := 5) (Ni := some 14) (Nj := some 6) #[true, true, true, true, true, false, false, false] #[true, true, true, false, true, true, false, false] rfl rfl rfl rfl (two_of HT_.out (by kernel_rfl)) (by decide) (by decide) (fun K hK => ?_) (fun K hK => ?_)
            ·
             skip
             refine goes_ Try.func13 (by kernel_rfl) rfl #[.agg #[.bool t657, .slice Ao36 t658.length co36]] (by rfl) rfl rfl (by (try simp only [List.map_toArray, List.map_cons, List.map_nil]); rfl) ?_
             with_reducible refine (zelligeref04_Of.calls k t657 _ _ t658 t665 t666 _ ?side1 ?side2 A6.out).mono ?_
             (case side1 => exact (Kd.R_reads' HO660.out).2.2)
             (case side2 => exact (Kd.R_reads' HO660.out).2.1)
             rintro e w43 ⟨v667, rfl, ho0, hb⟩
             refine ⟨_, rfl, ?_⟩
             replace HO656 := am (Kd.R_below HO656.out hb)
             replace HO660 := am (Kd.R_below HO660.out hb)
             have HO668 := am (Kd.R_lower (Kd.R_new' ho0 (Kd.R_lt HO664.out)) (below_size HB.out))
             replace HO664 := am (Kd.R_elder' HO664.out (Kd.R_base ho0) hb)
             replace BK651 := am (blk_below BK651.out hb)
             replace BK652 := am (blk_below BK652.out hb)
             replace BK669 := am (blk_below BK669.out hb)
             replace HB := am (below_step HB.out hb)
             try clear hb
             try clear ho0
             refine hK.out _ _ ⟨(blk_cell BK651.out 0).trans rfl, (blk_cell BK651.out 1).trans rfl, (blk_cell BK652.out 0).trans rfl, (blk_cell BK652.out 1).trans rfl⟩ (fun hHeld => ?_)
             clear hK K
             refine norm_ (a' := ?_) ?_ ?_
             rotate_left
             ·
              show Act.put _ (some 14) _ = _
              simp only [Act.put, sI_, s0_, s1_, i64_w, i32_w]
              rfl
             exact norm_ (by (simp only [putAll, Act.put, sI_, s0_, s1_]; done)) (hJ1_3_4 (v663, v667, gb669) _ ⟨hHeld, HO656.out, HO660.out, (by exact Kd.R_mono HO664.out (fun _ hk => by exact hk.2)), (by exact Kd.R_mono HO668.out (fun _ hk => by exact hk.2)), BK651.out, BK652.out, BK669.out, GW669.out, GE669.out, NB651_669.out, NB669_651.out, NB652_669.out, NB669_652.out, HB.out⟩)
            ·
             skip
             refine box_step ?hg (N := 6) ?hd (cs := #[.int .i64 0, .slice none 0 0]) (t := 33) ?hr ?_; (case hd => rfl); (case hg => rfl); (case hr => (go_simp; done))
             intro gb670 hg w43 hbox hb
             replace HO656 := am (Kd.R_below HO656.out hb)
             replace HO660 := am (Kd.R_below HO660.out hb)
             replace HO664 := am (Kd.R_below HO664.out hb)
             have BK670 := am hbox
             have GW670 := am (gel hg HB.out)
             have GE670 := am (gel hg HB.out)
             replace HB := am (below_step HB.out hb)
             have NB651_670 := am (nel hg BK651.out)
             have NB670_651 := am (ner hg BK651.out)
             replace BK651 := am (blk_below BK651.out hb)
             have NB652_670 := am (nel hg BK652.out)
             have NB670_652 := am (ner hg BK652.out)
             replace BK652 := am (blk_below BK652.out hb)
             have NB669_670 := am (nel hg BK669.out)
             have NB670_669 := am (ner hg BK669.out)
             replace BK669 := am (blk_below BK669.out hb)
             clear hb hbox hg
             refine hK.out _ _ ⟨(blk_cell BK651.out 0).trans rfl, (blk_cell BK651.out 1).trans rfl, (blk_cell BK652.out 0).trans rfl, (blk_cell BK652.out 1).trans rfl⟩ (fun hHeld => ?_)
             clear hK K
             refine norm_ (a' := ?_) ?_ ?_
             rotate_left
             ·
              show Act.put _ (some 6) _ = _
              simp only [Act.put, sI_, s0_, s1_, i64_w, i32_w]
              rfl
             exact norm_ (by (simp only [putAll, Act.put, sI_, s0_, s1_]; done)) (hJ1_4_5 (v663, gb669, gb670) _ ⟨hHeld, HO656.out, HO660.out, HO664.out, BK651.out, BK652.out, BK669.out, BK670.out, GW669.out, GE669.out, NB651_669.out, NB669_651.out, NB652_669.out, NB669_652.out, NB670_669.out, NB669_670.out, GW670.out, GE670.out, NB651_670.out, NB670_651.out, NB652_670.out, NB670_652.out, HB.out⟩)
          ·
           skip
           rintro ⟨v663, v667⟩ w42 ⟨hS_, h0_, h1_, h2_, h3_, h4_, h5_, h6_⟩
           have n0_ : Aside0 (Kd.R (Kd.int .u32) 78 w42 w.heap.size (fun k_ => some k_ ≠ (.slice Ao36 t658.length co36 : Value).ownBlock) (.slice Ao33 t654.length co33) t654) := ⟨h0_⟩
           have n1_ : Aside0 (Kd.R (Kd.int .u32) 78 w42 w.heap.size (fun k_ => some k_ ≠ (.slice Ao33 t654.length co33 : Value).ownBlock) (.slice Ao36 t658.length co36) t658) := ⟨h1_⟩
           have n2_ : Aside0 (Kd.R (Kd.int .i64) 3 w42 w.heap.size (fun k_ => some k_ ≠ (v667 : Value).ownBlock) v663 t662) := ⟨h2_⟩
           have n3_ : Aside0 (Kd.R (Kd.int .i64) 3 w42 w.heap.size (fun k_ => some k_ ≠ (v663 : Value).ownBlock) v667 t666) := ⟨h3_⟩
           have n4_ : Aside0 (w42.heap[gb651]? = some (.cells #[.bool t653, .slice Ao33 t654.length co33] 25 (0, 0))) := ⟨h4_⟩
           have n5_ : Aside0 (w42.heap[gb652]? = some (.cells #[.bool t657, .slice Ao36 t658.length co36] 25 (0, 0))) := ⟨h5_⟩
           have n6_ : Aside0 (Below w.heap.size w w42) := ⟨h6_⟩
           clear HO656
           clear HO660
           clear BK651
           clear BK652
           clear HB
           clear h0_ h1_ h2_ h3_ h4_ h5_ h6_
           have HO656 := n0_
           have HO660 := n1_
           have HO664 := n2_
           have HO668 := n3_
           have BK651 := n4_
           have BK652 := n5_
           have HB := n6_
           clear n0_ n1_ n2_ n3_ n4_ n5_ n6_
           have hHeld : w42.cell? ⟨gb651, 0, none⟩ = some (.bool t653) ∧ w42.cell? ⟨gb651, 1, none⟩ = some (.slice Ao33 t654.length co33) ∧ w42.cell? ⟨gb652, 0, none⟩ = some (.bool t657) ∧ w42.cell? ⟨gb652, 1, none⟩ = some (.slice Ao36 t658.length co36) := hS_
           refine norm_ (a' := ?_) ?_ ?_
           rotate_left
           ·
            simp only [putAll, Act.put, sI_, s0_, s1_]
            rfl
           refine two_ (i := 4) (j := 5) (Ni := some 5) (Nj := some 6) #[true, true, true, true, true, false, false, false] #[true, true, true, true, false, true, false, false] rfl rfl rfl rfl (two_of HT_.out (by kernel_rfl)) (by decide) (by decide) (fun K hK => ?_) (fun K hK => ?_)
           ·
            skip
            refine box_step ?hg (N := 5) ?hd (cs := #[.int .i64 0, .slice none 0 0]) (t := 33) ?hr ?_; (case hd => rfl); (case hg => rfl); (case hr => (go_simp; done))
            intro gb669 hg w43 hbox hb
            replace HO656 := am (Kd.R_below HO656.out hb)
            replace HO660 := am (Kd.R_below HO660.out hb)
            replace HO664 := am (Kd.R_below HO664.out hb)
            replace HO668 := am (Kd.R_below HO668.out hb)
            have BK669 := am hbox
            have GW669 := am (gel hg HB.out)
            have GE669 := am (gel hg HB.out)
            replace HB := am (below_step HB.out hb)
            have NB651_669 := am (nel hg BK651.out)
            have NB669_651 := am (ner hg BK651.out)
            replace BK651 := am (blk_below BK651.out hb)
            have NB652_669 := am (nel hg BK652.out)
            have NB669_652 := am (ner hg BK652.out)
            replace BK652 := am (blk_below BK652.out hb)
            clear hb hbox hg
            refine hK.out _ _ ⟨(blk_cell BK651.out 0).trans rfl, (blk_cell BK651.out 1).trans rfl, (blk_cell BK652.out 0).trans rfl, (blk_cell BK652.out 1).trans rfl⟩ (fun hHeld => ?_)
            clear hK K
            refine norm_ (a' := ?_) ?_ ?_
            rotate_left
            ·
             show Act.put _ (some 5) _ = _
             simp only [Act.put, sI_, s0_, s1_, i64_w, i32_w]
             rfl
            exact norm_ (by (simp only [putAll, Act.put, sI_, s0_, s1_]; done)) (hJ1_3_4 (v663, v667, gb669) _ ⟨hHeld, HO656.out, HO660.out, HO664.out, HO668.out, BK651.out, BK652.out, BK669.out, GW669.out, GE669.out, NB651_669.out, NB669_651.out, NB652_669.out, NB669_652.out, HB.out⟩)
           ·
            skip
            refine box_step ?hg (N := 6) ?hd (cs := #[.int .i64 0, .slice none 0 0]) (t := 33) ?hr ?_; (case hd => rfl); (case hg => rfl); (case hr => (go_simp; done))
            intro gb670 hg w43 hbox hb
            replace HO656 := am (Kd.R_below HO656.out hb)
            replace HO660 := am (Kd.R_below HO660.out hb)
            replace HO664 := am (Kd.R_below HO664.out hb)
            replace HO668 := am (Kd.R_below HO668.out hb)
            have BK670 := am hbox
            have GW670 := am (gel hg HB.out)
            have GE670 := am (gel hg HB.out)
            replace HB := am (below_step HB.out hb)
            have NB651_670 := am (nel hg BK651.out)
            have NB670_651 := am (ner hg BK651.out)
            replace BK651 := am (blk_below BK651.out hb)
            have NB652_670 := am (nel hg BK652.out)
            have NB670_652 := am (ner hg BK652.out)
            replace BK652 := am (blk_below BK652.out hb)
            clear hb hbox hg
            refine hK.out _ _ ⟨(blk_cell BK651.out 0).trans rfl, (blk_cell BK651.out 1).trans rfl, (blk_cell BK652.out 0).trans rfl, (blk_cell BK652.out 1).trans rfl⟩ (fun hHeld => ?_)
            clear hK K
            refine norm_ (a' := ?_) ?_ ?_
            rotate_left
            ·
             show Act.put _ (some 6) _ = _
             simp only [Act.put, sI_, s0_, s1_, i64_w, i32_w]
             rfl
            exact norm_ (by (simp only [putAll, Act.put, sI_, s0_, s1_]; done)) (hJ1_3_5 (v663, v667, gb670) _ ⟨hHeld, HO656.out, HO660.out, HO664.out, HO668.out, BK651.out, BK652.out, BK670.out, GW670.out, GE670.out, NB651_670.out, NB670_651.out, NB652_670.out, NB670_652.out, HB.out⟩)
         ·
          skip
          rintro ⟨v663, gb669, gb670⟩ w43 ⟨hS_, h0_, h1_, h2_, h3_, h4_, h5_, h6_, h7_, h8_, h9_, h10_, h11_, h12_, h13_, h14_, h15_, h16_, h17_, h18_, h19_, h20_, h21_⟩
          have n0_ : Aside0 (Kd.R (Kd.int .u32) 78 w43 w.heap.size (fun k_ => some k_ ≠ (.slice Ao36 t658.length co36 : Value).ownBlock) (.slice Ao33 t654.length co33) t654) := ⟨h0_⟩
          have n1_ : Aside0 (Kd.R (Kd.int .u32) 78 w43 w.heap.size (fun k_ => some k_ ≠ (.slice Ao33 t654.length co33 : Value).ownBlock) (.slice Ao36 t658.length co36) t658) := ⟨h1_⟩
          have n2_ : Aside0 (Kd.R (Kd.int .i64) 3 w43 w.heap.size (fun _ => True) v663 t662) := ⟨h2_⟩
          have n3_ : Aside0 (w43.heap[gb651]? = some (.cells #[.bool t653, .slice Ao33 t654.length co33] 25 (0, 0))) := ⟨h3_⟩
          have n4_ : Aside0 (w43.heap[gb652]? = some (.cells #[.bool t657, .slice Ao36 t658.length co36] 25 (0, 0))) := ⟨h4_⟩
          have n5_ : Aside0 (w43.heap[gb669]? = some (.cells #[.int .i64 0, .slice none 0 0] 33 (0, 0))) := ⟨h5_⟩
          have n6_ : Aside0 (w43.heap[gb670]? = some (.cells #[.int .i64 0, .slice none 0 0] 33 (0, 0))) := ⟨h6_⟩
          have n7_ : Aside0 (w.heap.size ≤ gb669) := ⟨h7_⟩
          have n8_ : Aside0 (w.heap.size ≤ gb669) := ⟨h8_⟩
          have n9_ : Aside0 (gb651 ≠ gb669) := ⟨h9_⟩
          have n10_ : Aside0 (gb669 ≠ gb651) := ⟨h10_⟩
          have n11_ : Aside0 (gb652 ≠ gb669) := ⟨h11_⟩
          have n12_ : Aside0 (gb669 ≠ gb652) := ⟨h12_⟩
          have n13_ : Aside0 (gb670 ≠ gb669) := ⟨h13_⟩
          have n14_ : Aside0 (gb669 ≠ gb670) := ⟨h14_⟩
          have n15_ : Aside0 (w.heap.size ≤ gb670) := ⟨h15_⟩
          have n16_ : Aside0 (w.heap.size ≤ gb670) := ⟨h16_⟩
          have n17_ : Aside0 (gb651 ≠ gb670) := ⟨h17_⟩
          have n18_ : Aside0 (gb670 ≠ gb651) := ⟨h18_⟩
          have n19_ : Aside0 (gb652 ≠ gb670) := ⟨h19_⟩
          have n20_ : Aside0 (gb670 ≠ gb652) := ⟨h20_⟩
          have n21_ : Aside0 (Below w.heap.size w w43) := ⟨h21_⟩
          clear HO656
          clear HO660
          clear BK651
          clear BK652
          clear HB
          clear h0_ h1_ h2_ h3_ h4_ h5_ h6_ h7_ h8_ h9_ h10_ h11_ h12_ h13_ h14_ h15_ h16_ h17_ h18_ h19_ h20_ h21_
          have HO656 := n0_
          have HO660 := n1_
          have HO664 := n2_
          have BK651 := n3_
          have BK652 := n4_
          have BK669 := n5_
          have BK670 := n6_
          have GW669 := n7_
          have GE669 := n8_
          have NB651_669 := n9_
          have NB669_651 := n10_
          have NB652_669 := n11_
          have NB669_652 := n12_
          have NB670_669 := n13_
          have NB669_670 := n14_
          have GW670 := n15_
          have GE670 := n16_
          have NB651_670 := n17_
          have NB670_651 := n18_
          have NB652_670 := n19_
          have NB670_652 := n20_
          have HB := n21_
          clear n0_ n1_ n2_ n3_ n4_ n5_ n6_ n7_ n8_ n9_ n10_ n11_ n12_ n13_ n14_ n15_ n16_ n17_ n18_ n19_ n20_ n21_
          have hHeld : w43.cell? ⟨gb651, 0, none⟩ = some (.bool t653) ∧ w43.cell? ⟨gb651, 1, none⟩ = some (.slice Ao33 t654.length co33) ∧ w43.cell? ⟨gb652, 0, none⟩ = some (.bool t657) ∧ w43.cell? ⟨gb652, 1, none⟩ = some (.slice Ao36 t658.length co36) := hS_
          refine norm_ (a' := ?_) ?_ ?_
          rotate_left
          ·
           simp only [putAll, Act.put, sI_, s0_, s1_]
           rfl
          refine one_ (i := 3) (N := some 14) #[true, true, true, true, true, true, false, false] rfl rfl (one_of HT_.out (by kernel_rfl)) (by decide) (fun K hK => ?_)
          refine goes_ Try.func13 (by kernel_rfl) rfl #[.agg #[.bool t657, .slice Ao36 t658.length co36]] (by rfl) rfl rfl (by (try simp only [List.map_toArray, List.map_cons, List.map_nil]); rfl) ?_
          with_reducible refine (zelligeref04_Of.calls k t657 _ _ t658 t665 t666 _ ?side1 ?side2 A6.out).mono ?_
          (case side1 => exact (Kd.R_reads' HO660.out).2.2)
          (case side2 => exact (Kd.R_reads' HO660.out).2.1)
          rintro e w44 ⟨v667, rfl, ho0, hb⟩
          refine ⟨_, rfl, ?_⟩
          replace HO656 := am (Kd.R_below HO656.out hb)
          replace HO660 := am (Kd.R_below HO660.out hb)
          have HO668 := am (Kd.R_lower (Kd.R_new' ho0 (Kd.R_lt HO664.out)) (below_size HB.out))
          replace HO664 := am (Kd.R_elder' HO664.out (Kd.R_base ho0) hb)
          replace BK651 := am (blk_below BK651.out hb)
          replace BK652 := am (blk_below BK652.out hb)
          replace BK669 := am (blk_below BK669.out hb)
          replace BK670 := am (blk_below BK670.out hb)
          replace HB := am (below_step HB.out hb)
          try clear hb
          try clear ho0
          refine hK.out _ _ ⟨(blk_cell BK651.out 0).trans rfl, (blk_cell BK651.out 1).trans rfl, (blk_cell BK652.out 0).trans rfl, (blk_cell BK652.out 1).trans rfl⟩ (fun hHeld => ?_)
          clear hK K
          refine norm_ (a' := ?_) ?_ ?_
          rotate_left
          ·
           show Act.put _ (some 14) _ = _
           simp only [Act.put, sI_, s0_, s1_, i64_w, i32_w]
           rfl
          exact norm_ (by (simp only [putAll, Act.put, sI_, s0_, s1_]; done)) (hJ1_3_4_5 (v663, v667, gb669, gb670) _ ⟨hHeld, HO656.out, HO660.out, (by exact Kd.R_mono HO664.out (fun _ hk => by exact hk.2)), (by exact Kd.R_mono HO668.out (fun _ hk => by exact hk.2)), BK651.out, BK652.out, BK669.out, BK670.out, GW669.out, GE669.out, NB651_669.out, NB669_651.out, NB652_669.out, NB669_652.out, NB670_669.out, NB669_670.out, GW670.out, GE670.out, NB651_670.out, NB670_651.out, NB652_670.out, NB670_652.out, HB.out⟩)
        ·
         skip
         rintro ⟨v663, v667, gb670⟩ w43 ⟨hS_, h0_, h1_, h2_, h3_, h4_, h5_, h6_, h7_, h8_, h9_, h10_, h11_, h12_, h13_⟩
         have n0_ : Aside0 (Kd.R (Kd.int .u32) 78 w43 w.heap.size (fun k_ => some k_ ≠ (.slice Ao36 t658.length co36 : Value).ownBlock) (.slice Ao33 t654.length co33) t654) := ⟨h0_⟩
         have n1_ : Aside0 (Kd.R (Kd.int .u32) 78 w43 w.heap.size (fun k_ => some k_ ≠ (.slice Ao33 t654.length co33 : Value).ownBlock) (.slice Ao36 t658.length co36) t658) := ⟨h1_⟩
         have n2_ : Aside0 (Kd.R (Kd.int .i64) 3 w43 w.heap.size (fun k_ => some k_ ≠ (v667 : Value).ownBlock) v663 t662) := ⟨h2_⟩
         have n3_ : Aside0 (Kd.R (Kd.int .i64) 3 w43 w.heap.size (fun k_ => some k_ ≠ (v663 : Value).ownBlock) v667 t666) := ⟨h3_⟩
         have n4_ : Aside0 (w43.heap[gb651]? = some (.cells #[.bool t653, .slice Ao33 t654.length co33] 25 (0, 0))) := ⟨h4_⟩
         have n5_ : Aside0 (w43.heap[gb652]? = some (.cells #[.bool t657, .slice Ao36 t658.length co36] 25 (0, 0))) := ⟨h5_⟩
         have n6_ : Aside0 (w43.heap[gb670]? = some (.cells #[.int .i64 0, .slice none 0 0] 33 (0, 0))) := ⟨h6_⟩
         have n7_ : Aside0 (w.heap.size ≤ gb670) := ⟨h7_⟩
         have n8_ : Aside0 (w.heap.size ≤ gb670) := ⟨h8_⟩
         have n9_ : Aside0 (gb651 ≠ gb670) := ⟨h9_⟩
         have n10_ : Aside0 (gb670 ≠ gb651) := ⟨h10_⟩
         have n11_ : Aside0 (gb652 ≠ gb670) := ⟨h11_⟩
         have n12_ : Aside0 (gb670 ≠ gb652) := ⟨h12_⟩
         have n13_ : Aside0 (Below w.heap.size w w43) := ⟨h13_⟩
         clear HO656
         clear HO660
         clear BK651
         clear BK652
         clear HB
         clear h0_ h1_ h2_ h3_ h4_ h5_ h6_ h7_ h8_ h9_ h10_ h11_ h12_ h13_
         have HO656 := n0_
         have HO660 := n1_
         have HO664 := n2_
         have HO668 := n3_
         have BK651 := n4_
         have BK652 := n5_
         have BK670 := n6_
         have GW670 := n7_
         have GE670 := n8_
         have NB651_670 := n9_
         have NB670_651 := n10_
         have NB652_670 := n11_
         have NB670_652 := n12_
         have HB := n13_
         clear n0_ n1_ n2_ n3_ n4_ n5_ n6_ n7_ n8_ n9_ n10_ n11_ n12_ n13_
         have hHeld : w43.cell? ⟨gb651, 0, none⟩ = some (.bool t653) ∧ w43.cell? ⟨gb651, 1, none⟩ = some (.slice Ao33 t654.length co33) ∧ w43.cell? ⟨gb652, 0, none⟩ = some (.bool t657) ∧ w43.cell? ⟨gb652, 1, none⟩ = some (.slice Ao36 t658.length co36) := hS_
         refine norm_ (a' := ?_) ?_ ?_
         rotate_left
         ·
          simp only [putAll, Act.put, sI_, s0_, s1_]
          rfl
         refine one_ (i := 4) (N := some 5) #[true, true, true, true, true, true, false, false] rfl rfl (one_of HT_.out (by kernel_rfl)) (by decide) (fun K hK => ?_)
         refine box_step ?hg (N := 5) ?hd (cs := #[.int .i64 0, .slice none 0 0]) (t := 33) ?hr ?_; (case hd => rfl); (case hg => rfl); (case hr => (go_simp; done))
         intro gb669 hg w44 hbox hb
         replace HO656 := am (Kd.R_below HO656.out hb)
         replace HO660 := am (Kd.R_below HO660.out hb)
         replace HO664 := am (Kd.R_below HO664.out hb)
         replace HO668 := am (Kd.R_below HO668.out hb)
         have BK669 := am hbox
         have GW669 := am (gel hg HB.out)
         have GE669 := am (gel hg HB.out)
         replace HB := am (below_step HB.out hb)
         have NB651_669 := am (nel hg BK651.out)
         have NB669_651 := am (ner hg BK651.out)
         replace BK651 := am (blk_below BK651.out hb)
         have NB652_669 := am (nel hg BK652.out)
         have NB669_652 := am (ner hg BK652.out)
         replace BK652 := am (blk_below BK652.out hb)
         have NB670_669 := am (nel hg BK670.out)
         have NB669_670 := am (ner hg BK670.out)
         replace BK670 := am (blk_below BK670.out hb)
         clear hb hbox hg
         refine hK.out _ _ ⟨(blk_cell BK651.out 0).trans rfl, (blk_cell BK651.out 1).trans rfl, (blk_cell BK652.out 0).trans rfl, (blk_cell BK652.out 1).trans rfl⟩ (fun hHeld => ?_)
         clear hK K
         refine norm_ (a' := ?_) ?_ ?_
         rotate_left
         ·
          show Act.put _ (some 5) _ = _
          simp only [Act.put, sI_, s0_, s1_, i64_w, i32_w]
          rfl
         exact norm_ (by (simp only [putAll, Act.put, sI_, s0_, s1_]; done)) (hJ1_3_4_5 (v663, v667, gb669, gb670) _ ⟨hHeld, HO656.out, HO660.out, HO664.out, HO668.out, BK651.out, BK652.out, BK669.out, BK670.out, GW669.out, GE669.out, NB651_669.out, NB669_651.out, NB652_669.out, NB669_652.out, NB670_669.out, NB669_670.out, GW670.out, GE670.out, NB651_670.out, NB670_651.out, NB652_670.out, NB670_652.out, HB.out⟩)
       ·
        skip
        rintro ⟨v663, v667, gb669⟩ w43 ⟨hS_, h0_, h1_, h2_, h3_, h4_, h5_, h6_, h7_, h8_, h9_, h10_, h11_, h12_, h13_⟩
        have n0_ : Aside0 (Kd.R (Kd.int .u32) 78 w43 w.heap.size (fun k_ => some k_ ≠ (.slice Ao36 t658.length co36 : Value).ownBlock) (.slice Ao33 t654.length co33) t654) := ⟨h0_⟩
        have n1_ : Aside0 (Kd.R (Kd.int .u32) 78 w43 w.heap.size (fun k_ => some k_ ≠ (.slice Ao33 t654.length co33 : Value).ownBlock) (.slice Ao36 t658.length co36) t658) := ⟨h1_⟩
        have n2_ : Aside0 (Kd.R (Kd.int .i64) 3 w43 w.heap.size (fun k_ => some k_ ≠ (v667 : Value).ownBlock) v663 t662) := ⟨h2_⟩
        have n3_ : Aside0 (Kd.R (Kd.int .i64) 3 w43 w.heap.size (fun k_ => some k_ ≠ (v663 : Value).ownBlock) v667 t666) := ⟨h3_⟩
        have n4_ : Aside0 (w43.heap[gb651]? = some (.cells #[.bool t653, .slice Ao33 t654.length co33] 25 (0, 0))) := ⟨h4_⟩
        have n5_ : Aside0 (w43.heap[gb652]? = some (.cells #[.bool t657, .slice Ao36 t658.length co36] 25 (0, 0))) := ⟨h5_⟩
        have n6_ : Aside0 (w43.heap[gb669]? = some (.cells #[.int .i64 0, .slice none 0 0] 33 (0, 0))) := ⟨h6_⟩
        have n7_ : Aside0 (w.heap.size ≤ gb669) := ⟨h7_⟩
        have n8_ : Aside0 (w.heap.size ≤ gb669) := ⟨h8_⟩
        have n9_ : Aside0 (gb651 ≠ gb669) := ⟨h9_⟩
        have n10_ : Aside0 (gb669 ≠ gb651) := ⟨h10_⟩
        have n11_ : Aside0 (gb652 ≠ gb669) := ⟨h11_⟩
        have n12_ : Aside0 (gb669 ≠ gb652) := ⟨h12_⟩
        have n13_ : Aside0 (Below w.heap.size w w43) := ⟨h13_⟩
        clear HO656
        clear HO660
        clear BK651
        clear BK652
        clear HB
        clear h0_ h1_ h2_ h3_ h4_ h5_ h6_ h7_ h8_ h9_ h10_ h11_ h12_ h13_
        have HO656 := n0_
        have HO660 := n1_
        have HO664 := n2_
        have HO668 := n3_
        have BK651 := n4_
        have BK652 := n5_
        have BK669 := n6_
        have GW669 := n7_
        have GE669 := n8_
        have NB651_669 := n9_
        have NB669_651 := n10_
        have NB652_669 := n11_
        have NB669_652 := n12_
        have HB := n13_
        clear n0_ n1_ n2_ n3_ n4_ n5_ n6_ n7_ n8_ n9_ n10_ n11_ n12_ n13_
        have hHeld : w43.cell? ⟨gb651, 0, none⟩ = some (.bool t653) ∧ w43.cell? ⟨gb651, 1, none⟩ = some (.slice Ao33 t654.length co33) ∧ w43.cell? ⟨gb652, 0, none⟩ = some (.bool t657) ∧ w43.cell? ⟨gb652, 1, none⟩ = some (.slice Ao36 t658.length co36) := hS_
        refine norm_ (a' := ?_) ?_ ?_
        rotate_left
        ·
         simp only [putAll, Act.put, sI_, s0_, s1_]
         rfl
        refine one_ (i := 5) (N := some 6) #[true, true, true, true, true, true, false, false] rfl rfl (one_of HT_.out (by kernel_rfl)) (by decide) (fun K hK => ?_)
        refine box_step ?hg (N := 6) ?hd (cs := #[.int .i64 0, .slice none 0 0]) (t := 33) ?hr ?_; (case hd => rfl); (case hg => rfl); (case hr => (go_simp; done))
        intro gb670 hg w44 hbox hb
        replace HO656 := am (Kd.R_below HO656.out hb)
        replace HO660 := am (Kd.R_below HO660.out hb)
        replace HO664 := am (Kd.R_below HO664.out hb)
        replace HO668 := am (Kd.R_below HO668.out hb)
        have BK670 := am hbox
        have GW670 := am (gel hg HB.out)
        have GE670 := am (gel hg HB.out)
        replace HB := am (below_step HB.out hb)
        have NB651_670 := am (nel hg BK651.out)
        have NB670_651 := am (ner hg BK651.out)
        replace BK651 := am (blk_below BK651.out hb)
        have NB652_670 := am (nel hg BK652.out)
        have NB670_652 := am (ner hg BK652.out)
        replace BK652 := am (blk_below BK652.out hb)
        have NB669_670 := am (nel hg BK669.out)
        have NB670_669 := am (ner hg BK669.out)
        replace BK669 := am (blk_below BK669.out hb)
        clear hb hbox hg
        refine hK.out _ _ ⟨(blk_cell BK651.out 0).trans rfl, (blk_cell BK651.out 1).trans rfl, (blk_cell BK652.out 0).trans rfl, (blk_cell BK652.out 1).trans rfl⟩ (fun hHeld => ?_)
        clear hK K
        refine norm_ (a' := ?_) ?_ ?_
        rotate_left
        ·
         show Act.put _ (some 6) _ = _
         simp only [Act.put, sI_, s0_, s1_, i64_w, i32_w]
         rfl
        exact norm_ (by (simp only [putAll, Act.put, sI_, s0_, s1_]; done)) (hJ1_3_4_5 (v663, v667, gb669, gb670) _ ⟨hHeld, HO656.out, HO660.out, HO664.out, HO668.out, BK651.out, BK652.out, BK669.out, BK670.out, GW669.out, GE669.out, NB651_669.out, NB669_651.out, NB652_669.out, NB669_652.out, NB670_669.out, NB669_670.out, GW670.out, GE670.out, NB651_670.out, NB670_651.out, NB652_670.out, NB670_652.out, HB.out⟩)
      rintro ⟨v663, v667, gb669, gb670⟩ w44 ⟨hS_, h0_, h1_, h2_, h3_, h4_, h5_, h6_, h7_, h8_, h9_, h10_, h11_, h12_, h13_, h14_, h15_, h16_, h17_, h18_, h19_, h20_, h21_, h22_⟩
      have n0_ : Aside0 (Kd.R (Kd.int .u32) 78 w44 w.heap.size (fun k_ => some k_ ≠ (.slice Ao36 t658.length co36 : Value).ownBlock) (.slice Ao33 t654.length co33) t654) := ⟨h0_⟩
      have n1_ : Aside0 (Kd.R (Kd.int .u32) 78 w44 w.heap.size (fun k_ => some k_ ≠ (.slice Ao33 t654.length co33 : Value).ownBlock) (.slice Ao36 t658.length co36) t658) := ⟨h1_⟩
      have n2_ : Aside0 (Kd.R (Kd.int .i64) 3 w44 w.heap.size (fun k_ => some k_ ≠ (v667 : Value).ownBlock) v663 t662) := ⟨h2_⟩
      have n3_ : Aside0 (Kd.R (Kd.int .i64) 3 w44 w.heap.size (fun k_ => some k_ ≠ (v663 : Value).ownBlock) v667 t666) := ⟨h3_⟩
      have n4_ : Aside0 (w44.heap[gb651]? = some (.cells #[.bool t653, .slice Ao33 t654.length co33] 25 (0, 0))) := ⟨h4_⟩
      have n5_ : Aside0 (w44.heap[gb652]? = some (.cells #[.bool t657, .slice Ao36 t658.length co36] 25 (0, 0))) := ⟨h5_⟩
      have n6_ : Aside0 (w44.heap[gb669]? = some (.cells #[.int .i64 0, .slice none 0 0] 33 (0, 0))) := ⟨h6_⟩
      have n7_ : Aside0 (w44.heap[gb670]? = some (.cells #[.int .i64 0, .slice none 0 0] 33 (0, 0))) := ⟨h7_⟩
      have n8_ : Aside0 (w.heap.size ≤ gb669) := ⟨h8_⟩
      have n9_ : Aside0 (w.heap.size ≤ gb669) := ⟨h9_⟩
      have n10_ : Aside0 (gb651 ≠ gb669) := ⟨h10_⟩
      have n11_ : Aside0 (gb669 ≠ gb651) := ⟨h11_⟩
      have n12_ : Aside0 (gb652 ≠ gb669) := ⟨h12_⟩
      have n13_ : Aside0 (gb669 ≠ gb652) := ⟨h13_⟩
      have n14_ : Aside0 (gb670 ≠ gb669) := ⟨h14_⟩
      have n15_ : Aside0 (gb669 ≠ gb670) := ⟨h15_⟩
      have n16_ : Aside0 (w.heap.size ≤ gb670) := ⟨h16_⟩
      have n17_ : Aside0 (w.heap.size ≤ gb670) := ⟨h17_⟩
      have n18_ : Aside0 (gb651 ≠ gb670) := ⟨h18_⟩
      have n19_ : Aside0 (gb670 ≠ gb651) := ⟨h19_⟩
      have n20_ : Aside0 (gb652 ≠ gb670) := ⟨h20_⟩
      have n21_ : Aside0 (gb670 ≠ gb652) := ⟨h21_⟩
      have n22_ : Aside0 (Below w.heap.size w w44) := ⟨h22_⟩
      clear HO656
      clear HO660
      clear BK651
      clear BK652
      clear HB
      clear h0_ h1_ h2_ h3_ h4_ h5_ h6_ h7_ h8_ h9_ h10_ h11_ h12_ h13_ h14_ h15_ h16_ h17_ h18_ h19_ h20_ h21_ h22_
      have HO656 := n0_
      have HO660 := n1_
      have HO664 := n2_
      have HO668 := n3_
      have BK651 := n4_
      have BK652 := n5_
      have BK669 := n6_
      have BK670 := n7_
      have GW669 := n8_
      have GE669 := n9_
      have NB651_669 := n10_
      have NB669_651 := n11_
      have NB652_669 := n12_
      have NB669_652 := n13_
      have NB670_669 := n14_
      have NB669_670 := n15_
      have GW670 := n16_
      have GE670 := n17_
      have NB651_670 := n18_
      have NB670_651 := n19_
      have NB652_670 := n20_
      have NB670_652 := n21_
      have HB := n22_
      clear n0_ n1_ n2_ n3_ n4_ n5_ n6_ n7_ n8_ n9_ n10_ n11_ n12_ n13_ n14_ n15_ n16_ n17_ n18_ n19_ n20_ n21_ n22_
      have hHeld : w44.cell? ⟨gb651, 0, none⟩ = some (.bool t653) ∧ w44.cell? ⟨gb651, 1, none⟩ = some (.slice Ao33 t654.length co33) ∧ w44.cell? ⟨gb652, 0, none⟩ = some (.bool t657) ∧ w44.cell? ⟨gb652, 1, none⟩ = some (.slice Ao36 t658.length co36) := hS_
      obtain ⟨Ao46, co46, eo46⟩ := Kd.R_slice HO664.out
      (subst eo46)
      obtain ⟨Ao49, co49, eo49⟩ := Kd.R_slice HO668.out
      (subst eo49)
      refine norm_ (a' := ?_) ?_ ?_
      rotate_left
      ·
       simp only [putAll, Act.put, sI_, s0_, s1_]
       rfl
      refine one_ (i := 6) (N := none) #[true, true, true, true, true, true, true, false] rfl rfl (one_of HT_.out (by kernel_rfl)) (by decide) (fun K hK => ?_)
      have hs45 : w44.cell? ⟨gb669, 0, none⟩ = some (.int .i64 0) := (blk_cell BK669.out 0).trans rfl
      have hfs45 := blk_frozen BK669.out 0
      have hns45_0 := NB651_669.out
      have hns45_1 := NB652_669.out
      have hns45_3 := NB670_669.out
      have hms45_0 := NB669_651.out
      have hms45_1 := NB669_652.out
      have hms45_3 := NB669_670.out
      have hs47 : w44.cell? ⟨gb669, 1, none⟩ = some (.slice none 0 0) := (blk_cell BK669.out 1).trans rfl
      have hfs47 := blk_frozen BK669.out 1
      have hns47_0 := NB651_669.out
      have hns47_1 := NB652_669.out
      have hns47_3 := NB670_669.out
      have hms47_0 := NB669_651.out
      have hms47_1 := NB669_652.out
      have hms47_3 := NB669_670.out
      refine skip_ (w1 := ?_) (by rfl) rfl ?_ ?_
      rotate_left
      ·
       go_simp
       rfl
      refine hK.out _ _ ⟨((cell_far (p := ⟨gb669, _, none⟩) NB651_669.out _).trans (((cell_far (p := ⟨gb669, _, none⟩) NB651_669.out _).trans (hHeld.1)))), ((cell_far (p := ⟨gb669, _, none⟩) NB651_669.out _).trans (((cell_far (p := ⟨gb669, _, none⟩) NB651_669.out _).trans (hHeld.2.1)))), ((cell_far (p := ⟨gb669, _, none⟩) NB652_669.out _).trans (((cell_far (p := ⟨gb669, _, none⟩) NB652_669.out _).trans (hHeld.2.2.1)))), ((cell_far (p := ⟨gb669, _, none⟩) NB652_669.out _).trans (((cell_far (p := ⟨gb669, _, none⟩) NB652_669.out _).trans (hHeld.2.2.2))))⟩ (fun hHeld => ?_)
      clear hK K
      refine one_ (i := 7) (N := none) #[true, true, true, true, true, true, true, true] rfl rfl (one_of HT_.out (by kernel_rfl)) (by decide) (fun K hK => ?_)
      have hs48 : w44.cell? ⟨gb670, 0, none⟩ = some (.int .i64 0) := (blk_cell BK670.out 0).trans rfl
      have hfs48 := blk_frozen BK670.out 0
      have hns48_0 := NB651_670.out
      have hns48_1 := NB652_670.out
      have hns48_2 := NB669_670.out
      have hms48_0 := NB670_651.out
      have hms48_1 := NB670_652.out
      have hms48_2 := NB670_669.out
      have hs50 : w44.cell? ⟨gb670, 1, none⟩ = some (.slice none 0 0) := (blk_cell BK670.out 1).trans rfl
      have hfs50 := blk_frozen BK670.out 1
      have hns50_0 := NB651_670.out
      have hns50_1 := NB652_670.out
      have hns50_2 := NB669_670.out
      have hms50_0 := NB670_651.out
      have hms50_1 := NB670_652.out
      have hms50_2 := NB670_669.out
      refine skip_ (w1 := ?_) (by rfl) rfl ?_ ?_
      rotate_left
      ·
       go_simp
       rfl
      refine hK.out _ _ ⟨((cell_far (p := ⟨gb670, _, none⟩) NB651_670.out _).trans (((cell_far (p := ⟨gb670, _, none⟩) NB651_670.out _).trans (hHeld.1)))), ((cell_far (p := ⟨gb670, _, none⟩) NB651_670.out _).trans (((cell_far (p := ⟨gb670, _, none⟩) NB651_670.out _).trans (hHeld.2.1)))), ((cell_far (p := ⟨gb670, _, none⟩) NB652_670.out _).trans (((cell_far (p := ⟨gb670, _, none⟩) NB652_670.out _).trans (hHeld.2.2.1)))), ((cell_far (p := ⟨gb670, _, none⟩) NB652_670.out _).trans (((cell_far (p := ⟨gb670, _, none⟩) NB652_670.out _).trans (hHeld.2.2.2))))⟩ (fun hHeld => ?_)
      clear hK K
      refine done_ (done_of HT_.out (by kernel_rfl)) ?_
      try go_wp2
      have n0_ : Aside0 (Kd.R (Kd.int .u32) 78 ((((w44.setCell ⟨gb669, 0, none⟩ (.int .i64 t661)).setCell ⟨gb669, 1, none⟩ (.slice Ao46 t662.length co46)).setCell ⟨gb670, 0, none⟩ (.int .i64 t665)).setCell ⟨gb670, 1, none⟩ (.slice Ao49 t666.length co49)) w.heap.size (fun k_ => some k_ ≠ (.slice Ao36 t658.length co36 : Value).ownBlock) (.slice Ao33 t654.length co33) t654) := ⟨by exact Kd.R_mono (Kd.R_far (p := ⟨gb670, 1, none⟩) (Kd.R_far (p := ⟨gb670, 0, none⟩) (Kd.R_far (p := ⟨gb669, 1, none⟩) (Kd.R_far (p := ⟨gb669, 0, none⟩) (Kd.R_types (Kd.R_types HO656.out BK669.out (by decide)) BK670.out (by decide)) (fun _ hk => by exact hk.1.2) (.int .i64 t661)) (fun _ hk => by exact hk.1.2) (.slice Ao46 t662.length co46)) (fun _ hk => by exact hk.2) (.int .i64 t665)) (fun _ hk => by exact hk.2) (.slice Ao49 t666.length co49)) (fun _ hk => hk.1.1)⟩
      have n1_ : Aside0 (Kd.R (Kd.int .u32) 78 ((((w44.setCell ⟨gb669, 0, none⟩ (.int .i64 t661)).setCell ⟨gb669, 1, none⟩ (.slice Ao46 t662.length co46)).setCell ⟨gb670, 0, none⟩ (.int .i64 t665)).setCell ⟨gb670, 1, none⟩ (.slice Ao49 t666.length co49)) w.heap.size (fun k_ => some k_ ≠ (.slice Ao33 t654.length co33 : Value).ownBlock) (.slice Ao36 t658.length co36) t658) := ⟨by exact Kd.R_mono (Kd.R_far (p := ⟨gb670, 1, none⟩) (Kd.R_far (p := ⟨gb670, 0, none⟩) (Kd.R_far (p := ⟨gb669, 1, none⟩) (Kd.R_far (p := ⟨gb669, 0, none⟩) (Kd.R_types (Kd.R_types HO660.out BK669.out (by decide)) BK670.out (by decide)) (fun _ hk => by exact hk.1.2) (.int .i64 t661)) (fun _ hk => by exact hk.1.2) (.slice Ao46 t662.length co46)) (fun _ hk => by exact hk.2) (.int .i64 t665)) (fun _ hk => by exact hk.2) (.slice Ao49 t666.length co49)) (fun _ hk => hk.1.1)⟩
      have n2_ : Aside0 (Kd.R (Kd.int .i64) 3 ((((w44.setCell ⟨gb669, 0, none⟩ (.int .i64 t661)).setCell ⟨gb669, 1, none⟩ (.slice Ao46 t662.length co46)).setCell ⟨gb670, 0, none⟩ (.int .i64 t665)).setCell ⟨gb670, 1, none⟩ (.slice Ao49 t666.length co49)) w.heap.size (fun k_ => some k_ ≠ (.slice Ao49 t666.length co49 : Value).ownBlock) (.slice Ao46 t662.length co46) t662) := ⟨by exact Kd.R_mono (Kd.R_far (p := ⟨gb670, 1, none⟩) (Kd.R_far (p := ⟨gb670, 0, none⟩) (Kd.R_far (p := ⟨gb669, 1, none⟩) (Kd.R_far (p := ⟨gb669, 0, none⟩) (Kd.R_types (Kd.R_types HO664.out BK669.out (by decide)) BK670.out (by decide)) (fun _ hk => by exact hk.1.2) (.int .i64 t661)) (fun _ hk => by exact hk.1.2) (.slice Ao46 t662.length co46)) (fun _ hk => by exact hk.2) (.int .i64 t665)) (fun _ hk => by exact hk.2) (.slice Ao49 t666.length co49)) (fun _ hk => hk.1.1)⟩
      have n3_ : Aside0 (Kd.R (Kd.int .i64) 3 ((((w44.setCell ⟨gb669, 0, none⟩ (.int .i64 t661)).setCell ⟨gb669, 1, none⟩ (.slice Ao46 t662.length co46)).setCell ⟨gb670, 0, none⟩ (.int .i64 t665)).setCell ⟨gb670, 1, none⟩ (.slice Ao49 t666.length co49)) w.heap.size (fun k_ => some k_ ≠ (.slice Ao46 t662.length co46 : Value).ownBlock) (.slice Ao49 t666.length co49) t666) := ⟨by exact Kd.R_mono (Kd.R_far (p := ⟨gb670, 1, none⟩) (Kd.R_far (p := ⟨gb670, 0, none⟩) (Kd.R_far (p := ⟨gb669, 1, none⟩) (Kd.R_far (p := ⟨gb669, 0, none⟩) (Kd.R_types (Kd.R_types HO668.out BK669.out (by decide)) BK670.out (by decide)) (fun _ hk => by exact hk.1.2) (.int .i64 t661)) (fun _ hk => by exact hk.1.2) (.slice Ao46 t662.length co46)) (fun _ hk => by exact hk.2) (.int .i64 t665)) (fun _ hk => by exact hk.2) (.slice Ao49 t666.length co49)) (fun _ hk => hk.1.1)⟩
      have n4_ : Aside0 (((((w44.setCell ⟨gb669, 0, none⟩ (.int .i64 t661)).setCell ⟨gb669, 1, none⟩ (.slice Ao46 t662.length co46)).setCell ⟨gb670, 0, none⟩ (.int .i64 t665)).setCell ⟨gb670, 1, none⟩ (.slice Ao49 t666.length co49)).heap[gb651]? = some (.cells #[.bool t653, .slice Ao33 t654.length co33] 25 (0, 0))) := ⟨by refine blk_far ?_ NB651_670.out _; refine blk_far ?_ NB651_670.out _; refine blk_far ?_ NB651_669.out _; refine blk_far ?_ NB651_669.out _; exact BK651.out⟩
      have n5_ : Aside0 (((((w44.setCell ⟨gb669, 0, none⟩ (.int .i64 t661)).setCell ⟨gb669, 1, none⟩ (.slice Ao46 t662.length co46)).setCell ⟨gb670, 0, none⟩ (.int .i64 t665)).setCell ⟨gb670, 1, none⟩ (.slice Ao49 t666.length co49)).heap[gb652]? = some (.cells #[.bool t657, .slice Ao36 t658.length co36] 25 (0, 0))) := ⟨by refine blk_far ?_ NB652_670.out _; refine blk_far ?_ NB652_670.out _; refine blk_far ?_ NB652_669.out _; refine blk_far ?_ NB652_669.out _; exact BK652.out⟩
      have n6_ : Aside0 (((((w44.setCell ⟨gb669, 0, none⟩ (.int .i64 t661)).setCell ⟨gb669, 1, none⟩ (.slice Ao46 t662.length co46)).setCell ⟨gb670, 0, none⟩ (.int .i64 t665)).setCell ⟨gb670, 1, none⟩ (.slice Ao49 t666.length co49)).heap[gb669]? = some (.cells #[.int .i64 t661, .slice Ao46 t662.length co46] 33 (0, 0))) := ⟨by refine blk_far ?_ NB669_670.out _; refine blk_far ?_ NB669_670.out _; refine blk_put (cs := #[.int .i64 t661, .slice none 0 0]) ?_ 1 _ rfl; refine blk_put (cs := #[.int .i64 0, .slice none 0 0]) ?_ 0 _ rfl; exact BK669.out⟩
      have n7_ : Aside0 (((((w44.setCell ⟨gb669, 0, none⟩ (.int .i64 t661)).setCell ⟨gb669, 1, none⟩ (.slice Ao46 t662.length co46)).setCell ⟨gb670, 0, none⟩ (.int .i64 t665)).setCell ⟨gb670, 1, none⟩ (.slice Ao49 t666.length co49)).heap[gb670]? = some (.cells #[.int .i64 t665, .slice Ao49 t666.length co49] 33 (0, 0))) := ⟨by refine blk_put (cs := #[.int .i64 t665, .slice none 0 0]) ?_ 1 _ rfl; refine blk_put (cs := #[.int .i64 0, .slice none 0 0]) ?_ 0 _ rfl; refine blk_far ?_ NB670_669.out _; refine blk_far ?_ NB670_669.out _; exact BK670.out⟩
      have n8_ : Aside0 (Below w.heap.size w ((((w44.setCell ⟨gb669, 0, none⟩ (.int .i64 t661)).setCell ⟨gb669, 1, none⟩ (.slice Ao46 t662.length co46)).setCell ⟨gb670, 0, none⟩ (.int .i64 t665)).setCell ⟨gb670, 1, none⟩ (.slice Ao49 t666.length co49))) := ⟨by repeat ((with_reducible first | exact HB.out | refine below_set ?_ GE669.out | refine below_set ?_ GE670.out))⟩
      try clear HO656
      try clear HO660
      try clear HO664
      try clear HO668
      try clear BK651
      try clear BK652
      try clear BK669
      try clear BK670
      (try clear HB)
      generalize ((((w44.setCell ⟨gb669, 0, none⟩ (.int .i64 t661)).setCell ⟨gb669, 1, none⟩ (.slice Ao46 t662.length co46)).setCell ⟨gb670, 0, none⟩ (.int .i64 t665)).setCell ⟨gb670, 1, none⟩ (.slice Ao49 t666.length co49)) = w51 at n0_ n1_ n2_ n3_ n4_ n5_ n6_ n7_ n8_ ⊢
      have HO656 := n0_
      have HO660 := n1_
      have HO664 := n2_
      have HO668 := n3_
      have BK651 := n4_
      have BK652 := n5_
      have BK669 := n6_
      have BK670 := n7_
      have HB := n8_
      clear n0_ n1_ n2_ n3_ n4_ n5_ n6_ n7_ n8_
      replace HO656 := am (Kd.R_drew HO656.out)
      replace HO660 := am (Kd.R_drew HO660.out)
      replace HO664 := am (Kd.R_drew HO664.out)
      replace HO668 := am (Kd.R_drew HO668.out)
      replace BK651 := am (blk_drew BK651.out)
      replace BK652 := am (blk_drew BK652.out)
      replace BK669 := am (blk_drew BK669.out)
      replace BK670 := am (blk_drew BK670.out)
      replace HB := am (below_drew1 HB.out)
      refine start_ (n := 42) (S := fun w' => w'.cell? ⟨gb651, 0, none⟩ = some (.bool t653) ∧ w'.cell? ⟨gb651, 1, none⟩ = some (.slice Ao33 t654.length co33) ∧ w'.cell? ⟨gb652, 0, none⟩ = some (.bool t657) ∧ w'.cell? ⟨gb652, 1, none⟩ = some (.slice Ao36 t658.length co36) ∧ w'.cell? ⟨gb669, 0, none⟩ = some (.int .i64 t661) ∧ w'.cell? ⟨gb669, 1, none⟩ = some (.slice Ao46 t662.length co46) ∧ w'.cell? ⟨gb670, 0, none⟩ = some (.int .i64 t665) ∧ w'.cell? ⟨gb670, 1, none⟩ = some (.slice Ao49 t666.length co49)) (ds := []) #[false, false, false, false, false, false, false, false, false, false, false, false, false, false, false, false, false, false, false, false, false, false, false, false, false, false, false, false, false, false, false, false, false, false, false, false, false, false, false, false, false, false] (by kernel_rfl) rfl rfl ⟨(blk_cell BK651.out 0).trans rfl, (blk_cell BK651.out 1).trans rfl, (blk_cell BK652.out 0).trans rfl, (blk_cell BK652.out 1).trans rfl, (blk_cell BK669.out 0).trans rfl, (blk_cell BK669.out 1).trans rfl, (blk_cell BK670.out 0).trans rfl, (blk_cell BK670.out 1).trans rfl⟩ (fun hHeld => ?_); refine with_tabW zelligelaw04_WholeAdds.tab3 zelligelaw04_WholeAdds.bits3 (fun HT_ HW_ => ?_)
      generalize w51.drew = w52 at HO656 HO660 HO664 HO668 BK651 BK652 BK669 BK670 HB hHeld ⊢
      refine take_ (i := 0) (N := some 15) (v := ?_) (a' := ?_) #[true, false, false, false, false, false, false, false, false, false, false, false, false, false, false, false, false, false, false, false, false, false, false, false, false, false, false, false, false, false, false, false, false, false, false, false, false, false, false, false, false, false] rfl rfl (take_ofW HT_.out HW_.out (by kernel_rfl)) (fun _ _ _ h => h) (Or.inl ⟨by rfl, ?_⟩) hHeld ?_ ?_
      rotate_left
      ·
       rintro w' ⟨s0, s1, s2, s3, s4, s5, s6, s7⟩
       go_simp
       with_reducible rfl
      rotate_left
      ·
       simp only [Act.put, sI_, s0_, s1_, i64_w, i32_w]
       rfl
      refine take_ (i := 1) (N := some 16) (v := ?_) (a' := ?_) #[true, true, false, false, false, false, false, false, false, false, false, false, false, false, false, false, false, false, false, false, false, false, false, false, false, false, false, false, false, false, false, false, false, false, false, false, false, false, false, false, false, false] rfl rfl (take_ofW HT_.out HW_.out (by kernel_rfl)) (fun _ _ _ h => h) (Or.inl ⟨by rfl, ?_⟩) hHeld ?_ ?_
      rotate_left
      ·
       rintro w' ⟨s0, s1, s2, s3, s4, s5, s6, s7⟩
       go_simp
       with_reducible rfl
      rotate_left
      ·
       simp only [Act.put, sI_, s0_, s1_, i64_w, i32_w]
       rfl
      refine take_ (i := 3) (N := some 18) (v := ?_) (a' := ?_) #[true, true, false, true, false, false, false, false, false, false, false, false, false, false, false, false, false, false, false, false, false, false, false, false, false, false, false, false, false, false, false, false, false, false, false, false, false, false, false, false, false, false] rfl rfl (take_ofW HT_.out HW_.out (by kernel_rfl)) (fun _ _ _ h => h) (Or.inl ⟨by rfl, ?_⟩) hHeld ?_ ?_
      rotate_left
      ·
       rintro w' ⟨s0, s1, s2, s3, s4, s5, s6, s7⟩
       go_simp
       with_reducible rfl
      rotate_left
      ·
       simp only [Act.put, sI_, s0_, s1_, i64_w, i32_w]
       rfl
      refine take_ (i := 4) (N := some 19) (v := ?_) (a' := ?_) #[true, true, false, true, true, false, false, false, false, false, false, false, false, false, false, false, false, false, false, false, false, false, false, false, false, false, false, false, false, false, false, false, false, false, false, false, false, false, false, false, false, false] rfl rfl (take_ofW HT_.out HW_.out (by kernel_rfl)) (fun _ _ _ h => h) (Or.inl ⟨by rfl, ?_⟩) hHeld ?_ ?_
      rotate_left
      ·
       rintro w' ⟨s0, s1, s2, s3, s4, s5, s6, s7⟩
       go_simp
       with_reducible rfl
      rotate_left
      ·
       simp only [Act.put, sI_, s0_, s1_, i64_w, i32_w]
       rfl
      refine one_ (i := 2) (N := some 17) #[true, true, true, true, true, false, false, false, false, false, false, false, false, false, false, false, false, false, false, false, false, false, false, false, false, false, false, false, false, false, false, false, false, false, false, false, false, false, false, false, false, false] rfl rfl (one_of HT_.out (by kernel_rfl)) (by decide) (fun K hK => ?_)
      refine goes_ Try.func19 (by kernel_rfl) rfl #[.agg #[.bool t653, .slice Ao33 t654.length co33], .agg #[.bool t657, .slice Ao36 t658.length co36]] (by rfl) rfl rfl (by (try simp only [List.map_toArray, List.map_cons, List.map_nil]); rfl) ?_
      with_reducible refine (whole_Add.calls k t653 _ _ t654 t657 _ _ t658 t671 t672 _ ?side1 ?side2 ?side3 ?side4 A7.out).mono ?_
      (case side1 => exact (Kd.R_reads' HO656.out).2.2)
      (case side2 => exact (Kd.R_reads' HO656.out).2.1)
      (case side3 => exact (Kd.R_reads' HO660.out).2.2)
      (case side4 => exact (Kd.R_reads' HO660.out).2.1)
      rintro e w53 ⟨v673, rfl, ho0, hb⟩
      refine ⟨_, rfl, ?_⟩
      replace HO664 := am (Kd.R_below HO664.out hb)
      replace HO668 := am (Kd.R_below HO668.out hb)
      have HO674 := am (Kd.R_lower (Kd.R_new' (Kd.R_new' ho0 (Kd.R_lt HO656.out)) (Kd.R_lt HO660.out)) (below_size HB.out))
      replace HO656 := am (Kd.R_elder' HO656.out (Kd.R_base ho0) hb)
      replace HO660 := am (Kd.R_elder' HO660.out (Kd.R_base ho0) hb)
      replace BK651 := am (blk_below BK651.out hb)
      replace BK652 := am (blk_below BK652.out hb)
      replace BK669 := am (blk_below BK669.out hb)
      replace BK670 := am (blk_below BK670.out hb)
      replace HB := am (below_step HB.out hb)
      try clear hb
      try clear ho0
      refine hK.out _ _ ⟨(blk_cell BK651.out 0).trans rfl, (blk_cell BK651.out 1).trans rfl, (blk_cell BK652.out 0).trans rfl, (blk_cell BK652.out 1).trans rfl, (blk_cell BK669.out 0).trans rfl, (blk_cell BK669.out 1).trans rfl, (blk_cell BK670.out 0).trans rfl, (blk_cell BK670.out 1).trans rfl⟩ (fun hHeld => ?_)
      clear hK K
      refine norm_ (a' := ?_) ?_ ?_
      rotate_left
      ·
       show Act.put _ (some 17) _ = _
       simp only [Act.put, sI_, s0_, s1_, i64_w, i32_w]
       rfl
      refine one_ (i := 5) (N := some 20) #[true, true, true, true, true, true, false, false, false, false, false, false, false, false, false, false, false, false, false, false, false, false, false, false, false, false, false, false, false, false, false, false, false, false, false, false, false, false, false, false, false, false] rfl rfl (one_of HT_.out (by kernel_rfl)) (by decide) (fun K hK => ?_)
      refine goes_ Try.func20 (by kernel_rfl) rfl #[.agg #[.int .i64 t661, .slice Ao46 t662.length co46], .agg #[.int .i64 t665, .slice Ao49 t666.length co49]] (by rfl) rfl rfl (by (try simp only [List.map_toArray, List.map_cons, List.map_nil]); rfl) ?_
      with_reducible refine (zelligeref04_Add.calls k t661 (fun k_ => some k_ = (.slice Ao46 t662.length co46 : Value).ownBlock) _ _ t662 t665 (fun k_ => some k_ = (.slice Ao49 t666.length co49 : Value).ownBlock) _ _ t666 t675 t676 _ ?side1 ?side2 A8.out).mono ?_
      (case side1 => exact Kd.R_V (Kd.R_tight rfl (Kd.R_types (Kd.R_types (Kd.R_types (Kd.R_types (Kd.R_apart' (Kd.R_apart' (Kd.R_apart' (HO664.out) (Kd.R_typed HO656.out) (by decide)) (Kd.R_typed HO660.out) (by decide)) (Kd.R_typed HO674.out) (by decide)) BK651.out (by decide)) BK652.out (by decide)) BK669.out (by decide)) BK670.out (by decide))))
      (case side2 => exact Kd.R_V (Kd.R_tight rfl (Kd.R_types (Kd.R_types (Kd.R_types (Kd.R_types (Kd.R_apart' (Kd.R_apart' (Kd.R_apart' (HO668.out) (Kd.R_typed HO656.out) (by decide)) (Kd.R_typed HO660.out) (by decide)) (Kd.R_typed HO674.out) (by decide)) BK651.out (by decide)) BK652.out (by decide)) BK669.out (by decide)) BK670.out (by decide))))
      rintro e w54 ⟨v677, rfl, ho0, hb⟩
      refine ⟨_, rfl, ?_⟩
      have Z0_ := (Kd.R_types (Kd.R_types (Kd.R_types (Kd.R_types (Kd.R_apart' (Kd.R_apart' (Kd.R_apart' (HO664.out) (Kd.R_typed HO656.out) (by decide)) (Kd.R_typed HO660.out) (by decide)) (Kd.R_typed HO674.out) (by decide)) BK651.out (by decide)) BK652.out (by decide)) BK669.out (by decide)) BK670.out (by decide))
      have Z1_ := (Kd.R_types (Kd.R_types (Kd.R_types (Kd.R_types (Kd.R_apart' (Kd.R_apart' (Kd.R_apart' (HO668.out) (Kd.R_typed HO656.out) (by decide)) (Kd.R_typed HO660.out) (by decide)) (Kd.R_typed HO674.out) (by decide)) BK651.out (by decide)) BK652.out (by decide)) BK669.out (by decide)) BK670.out (by decide))
      have HO678 := am (Kd.V_lower (Kd.V_mono (ok' := fun k_ => some k_ ≠ (.slice Ao33 t654.length co33 : Value).ownBlock ∧ some k_ ≠ (.slice Ao36 t658.length co36 : Value).ownBlock ∧ some k_ ≠ (v673 : Value).ownBlock ∧ k_ ≠ gb651 ∧ k_ ≠ gb652 ∧ k_ ≠ gb669 ∧ k_ ≠ gb670) ho0 (fun k_ hk_ => ⟨Or.elim hk_ (fun hs_ => Or.elim hs_ (fun hs_ => (Z0_.1 k_ hs_.symm).1.1.1.1.1.1.2) (fun hs_ => (Z1_.1 k_ hs_.symm).1.1.1.1.1.1.2)) (fun hn_ => (Kd.fresh' (Kd.R_lt HO656.out) k_ hn_)), Or.elim hk_ (fun hs_ => Or.elim hs_ (fun hs_ => (Z0_.1 k_ hs_.symm).1.1.1.1.1.2) (fun hs_ => (Z1_.1 k_ hs_.symm).1.1.1.1.1.2)) (fun hn_ => (Kd.fresh' (Kd.R_lt HO660.out) k_ hn_)), Or.elim hk_ (fun hs_ => Or.elim hs_ (fun hs_ => (Z0_.1 k_ hs_.symm).1.1.1.1.2) (fun hs_ => (Z1_.1 k_ hs_.symm).1.1.1.1.2)) (fun hn_ => (Kd.fresh' (Kd.R_lt HO674.out) k_ hn_)), Or.elim hk_ (fun hs_ => Or.elim hs_ (fun hs_ => (Z0_.1 k_ hs_.symm).1.1.1.2) (fun hs_ => (Z1_.1 k_ hs_.symm).1.1.1.2)) (fun hn_ => (Kd.freshB BK651.out k_ hn_)), Or.elim hk_ (fun hs_ => Or.elim hs_ (fun hs_ => (Z0_.1 k_ hs_.symm).1.1.2) (fun hs_ => (Z1_.1 k_ hs_.symm).1.1.2)) (fun hn_ => (Kd.freshB BK652.out k_ hn_)), Or.elim hk_ (fun hs_ => Or.elim hs_ (fun hs_ => (Z0_.1 k_ hs_.symm).1.2) (fun hs_ => (Z1_.1 k_ hs_.symm).1.2)) (fun hn_ => (Kd.freshB BK669.out k_ hn_)), Or.elim hk_ (fun hs_ => Or.elim hs_ (fun hs_ => (Z0_.1 k_ hs_.symm).2) (fun hs_ => (Z1_.1 k_ hs_.symm).2)) (fun hn_ => (Kd.freshB BK670.out k_ hn_))⟩)) (below_size HB.out))
      clear Z0_ Z1_
      replace HO656 := am (Kd.R_below HO656.out hb)
      replace HO660 := am (Kd.R_below HO660.out hb)
      replace HO664 := am (Kd.R_below HO664.out hb)
      replace HO668 := am (Kd.R_below HO668.out hb)
      replace HO674 := am (Kd.R_below HO674.out hb)
      replace BK651 := am (blk_below BK651.out hb)
      replace BK652 := am (blk_below BK652.out hb)
      replace BK669 := am (blk_below BK669.out hb)
      replace BK670 := am (blk_below BK670.out hb)
      replace HB := am (below_step HB.out hb)
      try clear hb
      try clear ho0
      obtain ⟨Ao55, co55, eo55⟩ := Kd.R_slice HO674.out
      (subst eo55)
      obtain ⟨Ao56, co56, eo56⟩ := Kd.V_slice HO678.out
      (subst eo56)
      refine hK.out _ _ ⟨(blk_cell BK651.out 0).trans rfl, (blk_cell BK651.out 1).trans rfl, (blk_cell BK652.out 0).trans rfl, (blk_cell BK652.out 1).trans rfl, (blk_cell BK669.out 0).trans rfl, (blk_cell BK669.out 1).trans rfl, (blk_cell BK670.out 0).trans rfl, (blk_cell BK670.out 1).trans rfl⟩ (fun hHeld => ?_)
      clear hK K
      refine norm_ (a' := ?_) ?_ ?_
      rotate_left
      ·
       show Act.put _ (some 20) _ = _
       simp only [Act.put, sI_, s0_, s1_, i64_w, i32_w]
       rfl
      refine one_ (i := 6) (N := some 21) #[true, true, true, true, true, true, true, false, false, false, false, false, false, false, false, false, false, false, false, false, false, false, false, false, false, false, false, false, false, false, false, false, false, false, false, false, false, false, false, false, false, false] rfl rfl (one_of HT_.out (by kernel_rfl)) (by decide) (fun K hK => ?_)
      refine goes_ Try.func14 (by kernel_rfl) rfl #[.agg #[.bool t671, .slice Ao55 t672.length co55], .agg #[.int .i64 t675, .slice Ao56 t676.length co56]] (by rfl) rfl rfl (by (try simp only [List.map_toArray, List.map_cons, List.map_nil]); rfl) ?_
      with_reducible refine (zelligeref04_Same.calls k t671 _ _ t672 t675 _ _ t676 true _ ?side1 ?side2 ?side3 ?side4 A9.out).mono ?_
      (case side1 => exact (Kd.R_reads' HO674.out).2.2)
      (case side2 => exact (Kd.R_reads' HO674.out).2.1)
      (case side3 => exact (Kd.V_reads' HO678.out).2.2)
      (case side4 => exact (Kd.V_reads' HO678.out).2.1)
      rintro e w57 ⟨rfl, hb⟩
      refine ⟨_, rfl, ?_⟩
      replace HO656 := am (Kd.R_below HO656.out hb)
      replace HO660 := am (Kd.R_below HO660.out hb)
      replace HO664 := am (Kd.R_below HO664.out hb)
      replace HO668 := am (Kd.R_below HO668.out hb)
      replace HO674 := am (Kd.R_below HO674.out hb)
      replace HO678 := am (Kd.V_below HO678.out hb)
      replace BK651 := am (blk_below BK651.out hb)
      replace BK652 := am (blk_below BK652.out hb)
      replace BK669 := am (blk_below BK669.out hb)
      replace BK670 := am (blk_below BK670.out hb)
      replace HB := am (below_step HB.out hb)
      (try clear hb)
      refine hK.out _ _ ⟨(blk_cell BK651.out 0).trans rfl, (blk_cell BK651.out 1).trans rfl, (blk_cell BK652.out 0).trans rfl, (blk_cell BK652.out 1).trans rfl, (blk_cell BK669.out 0).trans rfl, (blk_cell BK669.out 1).trans rfl, (blk_cell BK670.out 0).trans rfl, (blk_cell BK670.out 1).trans rfl⟩ (fun hHeld => ?_)
      clear hK K
      refine norm_ (a' := ?_) ?_ ?_
      rotate_left
      ·
       show Act.put _ (some 21) _ = _
       simp only [Act.put, sI_, s0_, s1_, i64_w, i32_w]
       rfl
      refine pure_ (i := 7) (N := some 22) (v := ?_) (a' := ?_) #[true, true, true, true, true, true, true, true, false, false, false, false, false, false, false, false, false, false, false, false, false, false, false, false, false, false, false, false, false, false, false, false, false, false, false, false, false, false, false, false, false, false] rfl rfl (any_of HT_.out (by kernel_rfl)) (fun _ _ _ h => h) (Or.inl ⟨by rfl, ?_⟩) ?_ ?_
      rotate_left
      ·
       intro w'
       go_simp
       with_reducible rfl
      rotate_left
      ·
       simp only [Act.put, sI_, s0_, s1_, i64_w, i32_w]
       rfl
      refine take_ (i := 8) (N := some 23) (v := ?_) (a' := ?_) #[true, true, true, true, true, true, true, true, true, false, false, false, false, false, false, false, false, false, false, false, false, false, false, false, false, false, false, false, false, false, false, false, false, false, false, false, false, false, false, false, false, false] rfl rfl (take_ofW HT_.out HW_.out (by kernel_rfl)) (fun _ _ _ h => h) (Or.inl ⟨by rfl, ?_⟩) hHeld ?_ ?_
      rotate_left
      ·
       rintro w' ⟨s0, s1, s2, s3, s4, s5, s6, s7⟩
       go_simp
       with_reducible rfl
      rotate_left
      ·
       simp only [Act.put, sI_, s0_, s1_, i64_w, i32_w]
       rfl
      refine take_ (i := 9) (N := some 24) (v := ?_) (a' := ?_) #[true, true, true, true, true, true, true, true, true, true, false, false, false, false, false, false, false, false, false, false, false, false, false, false, false, false, false, false, false, false, false, false, false, false, false, false, false, false, false, false, false, false] rfl rfl (take_ofW HT_.out HW_.out (by kernel_rfl)) (fun _ _ _ h => h) (Or.inl ⟨by rfl, ?_⟩) hHeld ?_ ?_
      rotate_left
      ·
       rintro w' ⟨s0, s1, s2, s3, s4, s5, s6, s7⟩
       go_simp
       with_reducible rfl
      rotate_left
      ·
       simp only [Act.put, sI_, s0_, s1_, i64_w, i32_w]
       rfl
      refine take_ (i := 11) (N := some 26) (v := ?_) (a' := ?_) #[true, true, true, true, true, true, true, true, true, true, false, true, false, false, false, false, false, false, false, false, false, false, false, false, false, false, false, false, false, false, false, false, false, false, false, false, false, false, false, false, false, false] rfl rfl (take_ofW HT_.out HW_.out (by kernel_rfl)) (fun _ _ _ h => h) (Or.inl ⟨by rfl, ?_⟩) hHeld ?_ ?_
      rotate_left
      ·
       rintro w' ⟨s0, s1, s2, s3, s4, s5, s6, s7⟩
       go_simp
       with_reducible rfl
      rotate_left
      ·
       simp only [Act.put, sI_, s0_, s1_, i64_w, i32_w]
       rfl
      refine take_ (i := 12) (N := some 27) (v := ?_) (a' := ?_) #[true, true, true, true, true, true, true, true, true, true, false, true, true, false, false, false, false, false, false, false, false, false, false, false, false, false, false, false, false, false, false, false, false, false, false, false, false, false, false, false, false, false] rfl rfl (take_ofW HT_.out HW_.out (by kernel_rfl)) (fun _ _ _ h => h) (Or.inl ⟨by rfl, ?_⟩) hHeld ?_ ?_
      rotate_left
      ·
       rintro w' ⟨s0, s1, s2, s3, s4, s5, s6, s7⟩
       go_simp
       with_reducible rfl
      rotate_left
      ·
       simp only [Act.put, sI_, s0_, s1_, i64_w, i32_w]
       rfl
      refine one_ (i := 10) (N := some 25) #[true, true, true, true, true, true, true, true, true, true, true, true, true, false, false, false, false, false, false, false, false, false, false, false, false, false, false, false, false, false, false, false, false, false, false, false, false, false, false, false, false, false] rfl rfl (one_of HT_.out (by kernel_rfl)) (by decide) (fun K hK => ?_)
      refine goes_ Try.func21 (by kernel_rfl) rfl #[.agg #[.bool t653, .slice Ao33 t654.length co33], .agg #[.bool t657, .slice Ao36 t658.length co36]] (by rfl) rfl rfl (by (try simp only [List.map_toArray, List.map_cons, List.map_nil]); rfl) ?_
      with_reducible refine (whole_Sub.calls k t653 _ _ t654 t657 _ _ t658 t680 t681 _ ?side1 ?side2 ?side3 ?side4 A11.out).mono ?_
      (case side1 => exact (Kd.R_reads' HO656.out).2.2)
      (case side2 => exact (Kd.R_reads' HO656.out).2.1)
      (case side3 => exact (Kd.R_reads' HO660.out).2.2)
      (case side4 => exact (Kd.R_reads' HO660.out).2.1)
      rintro e w58 ⟨v682, rfl, ho0, hb⟩
      refine ⟨_, rfl, ?_⟩
      replace HO664 := am (Kd.R_below HO664.out hb)
      replace HO668 := am (Kd.R_below HO668.out hb)
      replace HO678 := am (Kd.V_elder' HO678.out (Kd.R_base ho0) hb)
      have HO683 := am (Kd.R_lower (Kd.R_new' (Kd.R_new' (Kd.R_new' ho0 (Kd.R_lt HO656.out)) (Kd.R_lt HO660.out)) (Kd.R_lt HO674.out)) (below_size HB.out))
      replace HO656 := am (Kd.R_elder' HO656.out (Kd.R_base ho0) hb)
      replace HO660 := am (Kd.R_elder' HO660.out (Kd.R_base ho0) hb)
      replace HO674 := am (Kd.R_elder' HO674.out (Kd.R_base ho0) hb)
      replace BK651 := am (blk_below BK651.out hb)
      replace BK652 := am (blk_below BK652.out hb)
      replace BK669 := am (blk_below BK669.out hb)
      replace BK670 := am (blk_below BK670.out hb)
      replace HB := am (below_step HB.out hb)
      try clear hb
      try clear ho0
      refine hK.out _ _ ⟨(blk_cell BK651.out 0).trans rfl, (blk_cell BK651.out 1).trans rfl, (blk_cell BK652.out 0).trans rfl, (blk_cell BK652.out 1).trans rfl, (blk_cell BK669.out 0).trans rfl, (blk_cell BK669.out 1).trans rfl, (blk_cell BK670.out 0).trans rfl, (blk_cell BK670.out 1).trans rfl⟩ (fun hHeld => ?_)
      clear hK K
      refine norm_ (a' := ?_) ?_ ?_
      rotate_left
      ·
       show Act.put _ (some 25) _ = _
       simp only [Act.put, sI_, s0_, s1_, i64_w, i32_w]
       rfl
      refine one_ (i := 13) (N := some 28) #[true, true, true, true, true, true, true, true, true, true, true, true, true, true, false, false, false, false, false, false, false, false, false, false, false, false, false, false, false, false, false, false, false, false, false, false, false, false, false, false, false, false] rfl rfl (one_of HT_.out (by kernel_rfl)) (by decide) (fun K hK => ?_)
      refine goes_ Try.func22 (by kernel_rfl) rfl #[.agg #[.int .i64 t661, .slice Ao46 t662.length co46], .agg #[.int .i64 t665, .slice Ao49 t666.length co49]] (by rfl) rfl rfl (by (try simp only [List.map_toArray, List.map_cons, List.map_nil]); rfl) ?_
      with_reducible refine (zelligeref04_Sub.calls k t661 (fun k_ => some k_ = (.slice Ao46 t662.length co46 : Value).ownBlock) _ _ t662 t665 (fun k_ => some k_ = (.slice Ao49 t666.length co49 : Value).ownBlock) _ _ t666 t684 t685 _ ?side1 ?side2 A12.out).mono ?_
      (case side1 => exact Kd.R_V (Kd.R_tight rfl (Kd.R_types (Kd.R_types (Kd.R_types (Kd.R_types (Kd.R_apart' (Kd.R_apart' (Kd.R_apart' (Kd.R_apart' (HO664.out) (Kd.R_typed HO656.out) (by decide)) (Kd.R_typed HO660.out) (by decide)) (Kd.R_typed HO674.out) (by decide)) (Kd.R_typed HO683.out) (by decide)) BK651.out (by decide)) BK652.out (by decide)) BK669.out (by decide)) BK670.out (by decide))))
      (case side2 => exact Kd.R_V (Kd.R_tight rfl (Kd.R_types (Kd.R_types (Kd.R_types (Kd.R_types (Kd.R_apart' (Kd.R_apart' (Kd.R_apart' (Kd.R_apart' (HO668.out) (Kd.R_typed HO656.out) (by decide)) (Kd.R_typed HO660.out) (by decide)) (Kd.R_typed HO674.out) (by decide)) (Kd.R_typed HO683.out) (by decide)) BK651.out (by decide)) BK652.out (by decide)) BK669.out (by decide)) BK670.out (by decide))))
      rintro e w59 ⟨v686, rfl, ho0, hb⟩
      refine ⟨_, rfl, ?_⟩
      replace HO678 := am (Kd.V_below HO678.out hb)
      have Z0_ := (Kd.R_types (Kd.R_types (Kd.R_types (Kd.R_types (Kd.R_apart' (Kd.R_apart' (Kd.R_apart' (Kd.R_apart' (HO664.out) (Kd.R_typed HO656.out) (by decide)) (Kd.R_typed HO660.out) (by decide)) (Kd.R_typed HO674.out) (by decide)) (Kd.R_typed HO683.out) (by decide)) BK651.out (by decide)) BK652.out (by decide)) BK669.out (by decide)) BK670.out (by decide))
      have Z1_ := (Kd.R_types (Kd.R_types (Kd.R_types (Kd.R_types (Kd.R_apart' (Kd.R_apart' (Kd.R_apart' (Kd.R_apart' (HO668.out) (Kd.R_typed HO656.out) (by decide)) (Kd.R_typed HO660.out) (by decide)) (Kd.R_typed HO674.out) (by decide)) (Kd.R_typed HO683.out) (by decide)) BK651.out (by decide)) BK652.out (by decide)) BK669.out (by decide)) BK670.out (by decide))
      have HO687 := am (Kd.V_lower (Kd.V_mono (ok' := fun k_ => some k_ ≠ (.slice Ao33 t654.length co33 : Value).ownBlock ∧ some k_ ≠ (.slice Ao36 t658.length co36 : Value).ownBlock ∧ some k_ ≠ (.slice Ao55 t672.length co55 : Value).ownBlock ∧ some k_ ≠ (v682 : Value).ownBlock ∧ k_ ≠ gb651 ∧ k_ ≠ gb652 ∧ k_ ≠ gb669 ∧ k_ ≠ gb670) ho0 (fun k_ hk_ => ⟨Or.elim hk_ (fun hs_ => Or.elim hs_ (fun hs_ => (Z0_.1 k_ hs_.symm).1.1.1.1.1.1.1.2) (fun hs_ => (Z1_.1 k_ hs_.symm).1.1.1.1.1.1.1.2)) (fun hn_ => (Kd.fresh' (Kd.R_lt HO656.out) k_ hn_)), Or.elim hk_ (fun hs_ => Or.elim hs_ (fun hs_ => (Z0_.1 k_ hs_.symm).1.1.1.1.1.1.2) (fun hs_ => (Z1_.1 k_ hs_.symm).1.1.1.1.1.1.2)) (fun hn_ => (Kd.fresh' (Kd.R_lt HO660.out) k_ hn_)), Or.elim hk_ (fun hs_ => Or.elim hs_ (fun hs_ => (Z0_.1 k_ hs_.symm).1.1.1.1.1.2) (fun hs_ => (Z1_.1 k_ hs_.symm).1.1.1.1.1.2)) (fun hn_ => (Kd.fresh' (Kd.R_lt HO674.out) k_ hn_)), Or.elim hk_ (fun hs_ => Or.elim hs_ (fun hs_ => (Z0_.1 k_ hs_.symm).1.1.1.1.2) (fun hs_ => (Z1_.1 k_ hs_.symm).1.1.1.1.2)) (fun hn_ => (Kd.fresh' (Kd.R_lt HO683.out) k_ hn_)), Or.elim hk_ (fun hs_ => Or.elim hs_ (fun hs_ => (Z0_.1 k_ hs_.symm).1.1.1.2) (fun hs_ => (Z1_.1 k_ hs_.symm).1.1.1.2)) (fun hn_ => (Kd.freshB BK651.out k_ hn_)), Or.elim hk_ (fun hs_ => Or.elim hs_ (fun hs_ => (Z0_.1 k_ hs_.symm).1.1.2) (fun hs_ => (Z1_.1 k_ hs_.symm).1.1.2)) (fun hn_ => (Kd.freshB BK652.out k_ hn_)), Or.elim hk_ (fun hs_ => Or.elim hs_ (fun hs_ => (Z0_.1 k_ hs_.symm).1.2) (fun hs_ => (Z1_.1 k_ hs_.symm).1.2)) (fun hn_ => (Kd.freshB BK669.out k_ hn_)), Or.elim hk_ (fun hs_ => Or.elim hs_ (fun hs_ => (Z0_.1 k_ hs_.symm).2) (fun hs_ => (Z1_.1 k_ hs_.symm).2)) (fun hn_ => (Kd.freshB BK670.out k_ hn_))⟩)) (below_size HB.out))
      clear Z0_ Z1_
      replace HO656 := am (Kd.R_below HO656.out hb)
      replace HO660 := am (Kd.R_below HO660.out hb)
      replace HO664 := am (Kd.R_below HO664.out hb)
      replace HO668 := am (Kd.R_below HO668.out hb)
      replace HO674 := am (Kd.R_below HO674.out hb)
      replace HO683 := am (Kd.R_below HO683.out hb)
      replace BK651 := am (blk_below BK651.out hb)
      replace BK652 := am (blk_below BK652.out hb)
      replace BK669 := am (blk_below BK669.out hb)
      replace BK670 := am (blk_below BK670.out hb)
      replace HB := am (below_step HB.out hb)
      try clear hb
      try clear ho0
      obtain ⟨Ao60, co60, eo60⟩ := Kd.R_slice HO683.out
      (subst eo60)
      obtain ⟨Ao61, co61, eo61⟩ := Kd.V_slice HO687.out
      (subst eo61)
      refine hK.out _ _ ⟨(blk_cell BK651.out 0).trans rfl, (blk_cell BK651.out 1).trans rfl, (blk_cell BK652.out 0).trans rfl, (blk_cell BK652.out 1).trans rfl, (blk_cell BK669.out 0).trans rfl, (blk_cell BK669.out 1).trans rfl, (blk_cell BK670.out 0).trans rfl, (blk_cell BK670.out 1).trans rfl⟩ (fun hHeld => ?_)
      clear hK K
      refine norm_ (a' := ?_) ?_ ?_
      rotate_left
      ·
       show Act.put _ (some 28) _ = _
       simp only [Act.put, sI_, s0_, s1_, i64_w, i32_w]
       rfl
      refine one_ (i := 14) (N := some 29) #[true, true, true, true, true, true, true, true, true, true, true, true, true, true, true, false, false, false, false, false, false, false, false, false, false, false, false, false, false, false, false, false, false, false, false, false, false, false, false, false, false, false] rfl rfl (one_of HT_.out (by kernel_rfl)) (by decide) (fun K hK => ?_)
      refine goes_ Try.func14 (by kernel_rfl) rfl #[.agg #[.bool t680, .slice Ao60 t681.length co60], .agg #[.int .i64 t684, .slice Ao61 t685.length co61]] (by rfl) rfl rfl (by (try simp only [List.map_toArray, List.map_cons, List.map_nil]); rfl) ?_
      with_reducible refine (zelligeref04_Same.calls k t680 _ _ t681 t684 _ _ t685 true _ ?side1 ?side2 ?side3 ?side4 A13.out).mono ?_
      (case side1 => exact (Kd.R_reads' HO683.out).2.2)
      (case side2 => exact (Kd.R_reads' HO683.out).2.1)
      (case side3 => exact (Kd.V_reads' HO687.out).2.2)
      (case side4 => exact (Kd.V_reads' HO687.out).2.1)
      rintro e w62 ⟨rfl, hb⟩
      refine ⟨_, rfl, ?_⟩
      replace HO656 := am (Kd.R_below HO656.out hb)
      replace HO660 := am (Kd.R_below HO660.out hb)
      replace HO664 := am (Kd.R_below HO664.out hb)
      replace HO668 := am (Kd.R_below HO668.out hb)
      replace HO674 := am (Kd.R_below HO674.out hb)
      replace HO678 := am (Kd.V_below HO678.out hb)
      replace HO683 := am (Kd.R_below HO683.out hb)
      replace HO687 := am (Kd.V_below HO687.out hb)
      replace BK651 := am (blk_below BK651.out hb)
      replace BK652 := am (blk_below BK652.out hb)
      replace BK669 := am (blk_below BK669.out hb)
      replace BK670 := am (blk_below BK670.out hb)
      replace HB := am (below_step HB.out hb)
      (try clear hb)
      refine hK.out _ _ ⟨(blk_cell BK651.out 0).trans rfl, (blk_cell BK651.out 1).trans rfl, (blk_cell BK652.out 0).trans rfl, (blk_cell BK652.out 1).trans rfl, (blk_cell BK669.out 0).trans rfl, (blk_cell BK669.out 1).trans rfl, (blk_cell BK670.out 0).trans rfl, (blk_cell BK670.out 1).trans rfl⟩ (fun hHeld => ?_)
      clear hK K
      refine norm_ (a' := ?_) ?_ ?_
      rotate_left
      ·
       show Act.put _ (some 29) _ = _
       simp only [Act.put, sI_, s0_, s1_, i64_w, i32_w]
       rfl
      refine pure_ (i := 15) (N := some 30) (v := ?_) (a' := ?_) #[true, true, true, true, true, true, true, true, true, true, true, true, true, true, true, true, false, false, false, false, false, false, false, false, false, false, false, false, false, false, false, false, false, false, false, false, false, false, false, false, false, false] rfl rfl (any_of HT_.out (by kernel_rfl)) (fun _ _ _ h => h) (Or.inl ⟨by rfl, ?_⟩) ?_ ?_
      rotate_left
      ·
       intro w'
       go_simp
       with_reducible rfl
      rotate_left
      ·
       simp only [Act.put, sI_, s0_, s1_, i64_w, i32_w]
       rfl
      refine pure_ (i := 16) (N := some 31) (v := ?_) (a' := ?_) #[true, true, true, true, true, true, true, true, true, true, true, true, true, true, true, true, true, false, false, false, false, false, false, false, false, false, false, false, false, false, false, false, false, false, false, false, false, false, false, false, false, false] rfl rfl (any_of HT_.out (by kernel_rfl)) (fun _ _ _ h => h) (Or.inl ⟨by rfl, ?_⟩) ?_ ?_
      rotate_left
      ·
       intro w'
       go_simp
       with_reducible rfl
      rotate_left
      ·
       simp only [Act.put, sI_, s0_, s1_, i64_w, i32_w]
       rfl
      refine take_ (i := 17) (N := some 32) (v := ?_) (a' := ?_) #[true, true, true, true, true, true, true, true, true, true, true, true, true, true, true, true, true, true, false, false, false, false, false, false, false, false, false, false, false, false, false, false, false, false, false, false, false, false, false, false, false, false] rfl rfl (take_ofW HT_.out HW_.out (by kernel_rfl)) (fun _ _ _ h => h) (Or.inl ⟨by rfl, ?_⟩) hHeld ?_ ?_
      rotate_left
      ·
       rintro w' ⟨s0, s1, s2, s3, s4, s5, s6, s7⟩
       go_simp
       with_reducible rfl
      rotate_left
      ·
       simp only [Act.put, sI_, s0_, s1_, i64_w, i32_w]
       rfl
      refine take_ (i := 18) (N := some 33) (v := ?_) (a' := ?_) #[true, true, true, true, true, true, true, true, true, true, true, true, true, true, true, true, true, true, true, false, false, false, false, false, false, false, false, false, false, false, false, false, false, false, false, false, false, false, false, false, false, false] rfl rfl (take_ofW HT_.out HW_.out (by kernel_rfl)) (fun _ _ _ h => h) (Or.inl ⟨by rfl, ?_⟩) hHeld ?_ ?_
      rotate_left
      ·
       rintro w' ⟨s0, s1, s2, s3, s4, s5, s6, s7⟩
       go_simp
       with_reducible rfl
      rotate_left
      ·
       simp only [Act.put, sI_, s0_, s1_, i64_w, i32_w]
       rfl
      refine take_ (i := 20) (N := some 35) (v := ?_) (a' := ?_) #[true, true, true, true, true, true, true, true, true, true, true, true, true, true, true, true, true, true, true, false, true, false, false, false, false, false, false, false, false, false, false, false, false, false, false, false, false, false, false, false, false, false] rfl rfl (take_ofW HT_.out HW_.out (by kernel_rfl)) (fun _ _ _ h => h) (Or.inl ⟨by rfl, ?_⟩) hHeld ?_ ?_
      rotate_left
      ·
       rintro w' ⟨s0, s1, s2, s3, s4, s5, s6, s7⟩
       go_simp
       with_reducible rfl
      rotate_left
      ·
       simp only [Act.put, sI_, s0_, s1_, i64_w, i32_w]
       rfl
      refine take_ (i := 21) (N := some 36) (v := ?_) (a' := ?_) #[true, true, true, true, true, true, true, true, true, true, true, true, true, true, true, true, true, true, true, false, true, true, false, false, false, false, false, false, false, false, false, false, false, false, false, false, false, false, false, false, false, false] rfl rfl (take_ofW HT_.out HW_.out (by kernel_rfl)) (fun _ _ _ h => h) (Or.inl ⟨by rfl, ?_⟩) hHeld ?_ ?_
      rotate_left
      ·
       rintro w' ⟨s0, s1, s2, s3, s4, s5, s6, s7⟩
       go_simp
       with_reducible rfl
      rotate_left
      ·
       simp only [Act.put, sI_, s0_, s1_, i64_w, i32_w]
       rfl
      refine one_ (i := 19) (N := some 34) #[true, true, true, true, true, true, true, true, true, true, true, true, true, true, true, true, true, true, true, true, true, true, false, false, false, false, false, false, false, false, false, false, false, false, false, false, false, false, false, false, false, false] rfl rfl (one_of HT_.out (by kernel_rfl)) (by decide) (fun K hK => ?_)
      refine goes_ Try.func23 (by kernel_rfl) rfl #[.agg #[.bool t653, .slice Ao33 t654.length co33], .agg #[.bool t657, .slice Ao36 t658.length co36]] (by rfl) rfl rfl (by (try simp only [List.map_toArray, List.map_cons, List.map_nil]); rfl) ?_
      with_reducible refine (whole_Mul.calls k t653 _ _ t654 t657 _ _ t658 t689 t690 _ ?side1 ?side2 ?side3 ?side4 A15.out).mono ?_
      (case side1 => exact (Kd.R_reads' HO656.out).2.2)
      (case side2 => exact (Kd.R_reads' HO656.out).2.1)
      (case side3 => exact (Kd.R_reads' HO660.out).2.2)
      (case side4 => exact (Kd.R_reads' HO660.out).2.1)
      rintro e w63 ⟨v691, rfl, ho0, hb⟩
      refine ⟨_, rfl, ?_⟩
      replace HO664 := am (Kd.R_below HO664.out hb)
      replace HO668 := am (Kd.R_below HO668.out hb)
      replace HO678 := am (Kd.V_elder' HO678.out (Kd.R_base ho0) hb)
      replace HO687 := am (Kd.V_elder' HO687.out (Kd.R_base ho0) hb)
      have HO692 := am (Kd.R_lower (Kd.R_new' (Kd.R_new' (Kd.R_new' (Kd.R_new' ho0 (Kd.R_lt HO656.out)) (Kd.R_lt HO660.out)) (Kd.R_lt HO674.out)) (Kd.R_lt HO683.out)) (below_size HB.out))
      replace HO656 := am (Kd.R_elder' HO656.out (Kd.R_base ho0) hb)
      replace HO660 := am (Kd.R_elder' HO660.out (Kd.R_base ho0) hb)
      replace HO674 := am (Kd.R_elder' HO674.out (Kd.R_base ho0) hb)
      replace HO683 := am (Kd.R_elder' HO683.out (Kd.R_base ho0) hb)
      replace BK651 := am (blk_below BK651.out hb)
      replace BK652 := am (blk_below BK652.out hb)
      replace BK669 := am (blk_below BK669.out hb)
      replace BK670 := am (blk_below BK670.out hb)
      replace HB := am (below_step HB.out hb)
      try clear hb
      try clear ho0
      refine hK.out _ _ ⟨(blk_cell BK651.out 0).trans rfl, (blk_cell BK651.out 1).trans rfl, (blk_cell BK652.out 0).trans rfl, (blk_cell BK652.out 1).trans rfl, (blk_cell BK669.out 0).trans rfl, (blk_cell BK669.out 1).trans rfl, (blk_cell BK670.out 0).trans rfl, (blk_cell BK670.out 1).trans rfl⟩ (fun hHeld => ?_)
      clear hK K
      refine norm_ (a' := ?_) ?_ ?_
      rotate_left
      ·
       show Act.put _ (some 34) _ = _
       simp only [Act.put, sI_, s0_, s1_, i64_w, i32_w]
       rfl
      refine one_ (i := 22) (N := some 37) #[true, true, true, true, true, true, true, true, true, true, true, true, true, true, true, true, true, true, true, true, true, true, true, false, false, false, false, false, false, false, false, false, false, false, false, false, false, false, false, false, false, false] rfl rfl (one_of HT_.out (by kernel_rfl)) (by decide) (fun K hK => ?_)
      refine goes_ Try.func24 (by kernel_rfl) rfl #[.agg #[.int .i64 t661, .slice Ao46 t662.length co46], .agg #[.int .i64 t665, .slice Ao49 t666.length co49]] (by rfl) rfl rfl (by (try simp only [List.map_toArray, List.map_cons, List.map_nil]); rfl) ?_
      with_reducible refine (zelligeref04_Mul.calls k t661 _ _ t662 t665 _ _ t666 t693 t694 _ ?side1 ?side2 ?side3 ?side4 A16.out).mono ?_
      (case side1 => exact (Kd.R_reads' HO664.out).2.2)
      (case side2 => exact (Kd.R_reads' HO664.out).2.1)
      (case side3 => exact (Kd.R_reads' HO668.out).2.2)
      (case side4 => exact (Kd.R_reads' HO668.out).2.1)
      rintro e w64 ⟨v695, rfl, ho0, hb⟩
      refine ⟨_, rfl, ?_⟩
      replace HO678 := am (Kd.V_below HO678.out hb)
      replace HO687 := am (Kd.V_below HO687.out hb)
      have HO696 := am (Kd.V_lower (Kd.V_mono (ok' := fun k_ => some k_ ≠ (.slice Ao33 t654.length co33 : Value).ownBlock ∧ some k_ ≠ (.slice Ao36 t658.length co36 : Value).ownBlock ∧ some k_ ≠ (.slice Ao46 t662.length co46 : Value).ownBlock ∧ some k_ ≠ (.slice Ao49 t666.length co49 : Value).ownBlock ∧ some k_ ≠ (.slice Ao55 t672.length co55 : Value).ownBlock ∧ some k_ ≠ (.slice Ao60 t681.length co60 : Value).ownBlock ∧ some k_ ≠ (v691 : Value).ownBlock ∧ k_ ≠ gb651 ∧ k_ ≠ gb652 ∧ k_ ≠ gb669 ∧ k_ ≠ gb670) ho0 (fun k_ hk_ => ⟨(Kd.fresh' (Kd.R_lt HO656.out) k_ hk_), (Kd.fresh' (Kd.R_lt HO660.out) k_ hk_), (Kd.fresh' (Kd.R_lt HO664.out) k_ hk_), (Kd.fresh' (Kd.R_lt HO668.out) k_ hk_), (Kd.fresh' (Kd.R_lt HO674.out) k_ hk_), (Kd.fresh' (Kd.R_lt HO683.out) k_ hk_), (Kd.fresh' (Kd.R_lt HO692.out) k_ hk_), (Kd.freshB BK651.out k_ hk_), (Kd.freshB BK652.out k_ hk_), (Kd.freshB BK669.out k_ hk_), (Kd.freshB BK670.out k_ hk_)⟩)) (below_size HB.out))
      replace HO656 := am (Kd.R_below HO656.out hb)
      replace HO660 := am (Kd.R_below HO660.out hb)
      replace HO664 := am (Kd.R_below HO664.out hb)
      replace HO668 := am (Kd.R_below HO668.out hb)
      replace HO674 := am (Kd.R_below HO674.out hb)
      replace HO683 := am (Kd.R_below HO683.out hb)
      replace HO692 := am (Kd.R_below HO692.out hb)
      replace BK651 := am (blk_below BK651.out hb)
      replace BK652 := am (blk_below BK652.out hb)
      replace BK669 := am (blk_below BK669.out hb)
      replace BK670 := am (blk_below BK670.out hb)
      replace HB := am (below_step HB.out hb)
      try clear hb
      try clear ho0
      obtain ⟨Ao65, co65, eo65⟩ := Kd.R_slice HO692.out
      (subst eo65)
      obtain ⟨Ao66, co66, eo66⟩ := Kd.V_slice HO696.out
      (subst eo66)
      refine hK.out _ _ ⟨(blk_cell BK651.out 0).trans rfl, (blk_cell BK651.out 1).trans rfl, (blk_cell BK652.out 0).trans rfl, (blk_cell BK652.out 1).trans rfl, (blk_cell BK669.out 0).trans rfl, (blk_cell BK669.out 1).trans rfl, (blk_cell BK670.out 0).trans rfl, (blk_cell BK670.out 1).trans rfl⟩ (fun hHeld => ?_)
      clear hK K
      refine norm_ (a' := ?_) ?_ ?_
      rotate_left
      ·
       show Act.put _ (some 37) _ = _
       simp only [Act.put, sI_, s0_, s1_, i64_w, i32_w]
       rfl
      refine one_ (i := 23) (N := some 38) #[true, true, true, true, true, true, true, true, true, true, true, true, true, true, true, true, true, true, true, true, true, true, true, true, false, false, false, false, false, false, false, false, false, false, false, false, false, false, false, false, false, false] rfl rfl (one_of HT_.out (by kernel_rfl)) (by decide) (fun K hK => ?_)
      refine goes_ Try.func14 (by kernel_rfl) rfl #[.agg #[.bool t689, .slice Ao65 t690.length co65], .agg #[.int .i64 t693, .slice Ao66 t694.length co66]] (by rfl) rfl rfl (by (try simp only [List.map_toArray, List.map_cons, List.map_nil]); rfl) ?_
      with_reducible refine (zelligeref04_Same.calls k t689 _ _ t690 t693 _ _ t694 true _ ?side1 ?side2 ?side3 ?side4 A17.out).mono ?_
      (case side1 => exact (Kd.R_reads' HO692.out).2.2)
      (case side2 => exact (Kd.R_reads' HO692.out).2.1)
      (case side3 => exact (Kd.V_reads' HO696.out).2.2)
      (case side4 => exact (Kd.V_reads' HO696.out).2.1)
      rintro e w67 ⟨rfl, hb⟩
      refine ⟨_, rfl, ?_⟩
      replace HO656 := am (Kd.R_below HO656.out hb)
      replace HO660 := am (Kd.R_below HO660.out hb)
      replace HO664 := am (Kd.R_below HO664.out hb)
      replace HO668 := am (Kd.R_below HO668.out hb)
      replace HO674 := am (Kd.R_below HO674.out hb)
      replace HO678 := am (Kd.V_below HO678.out hb)
      replace HO683 := am (Kd.R_below HO683.out hb)
      replace HO687 := am (Kd.V_below HO687.out hb)
      replace HO692 := am (Kd.R_below HO692.out hb)
      replace HO696 := am (Kd.V_below HO696.out hb)
      replace BK651 := am (blk_below BK651.out hb)
      replace BK652 := am (blk_below BK652.out hb)
      replace BK669 := am (blk_below BK669.out hb)
      replace BK670 := am (blk_below BK670.out hb)
      replace HB := am (below_step HB.out hb)
      (try clear hb)
      refine hK.out _ _ ⟨(blk_cell BK651.out 0).trans rfl, (blk_cell BK651.out 1).trans rfl, (blk_cell BK652.out 0).trans rfl, (blk_cell BK652.out 1).trans rfl, (blk_cell BK669.out 0).trans rfl, (blk_cell BK669.out 1).trans rfl, (blk_cell BK670.out 0).trans rfl, (blk_cell BK670.out 1).trans rfl⟩ (fun hHeld => ?_)
      clear hK K
      refine norm_ (a' := ?_) ?_ ?_
      rotate_left
      ·
       show Act.put _ (some 38) _ = _
       simp only [Act.put, sI_, s0_, s1_, i64_w, i32_w]
       rfl
      refine pure_ (i := 24) (N := some 39) (v := ?_) (a' := ?_) #[true, true, true, true, true, true, true, true, true, true, true, true, true, true, true, true, true, true, true, true, true, true, true, true, true, false, false, false, false, false, false, false, false, false, false, false, false, false, false, false, false, false] rfl rfl (any_of HT_.out (by kernel_rfl)) (fun _ _ _ h => h) (Or.inl ⟨by rfl, ?_⟩) ?_ ?_
      rotate_left
      ·
       intro w'
       go_simp
       with_reducible rfl
      rotate_left
      ·
       simp only [Act.put, sI_, s0_, s1_, i64_w, i32_w]
       rfl
      refine pure_ (i := 25) (N := some 40) (v := ?_) (a' := ?_) #[true, true, true, true, true, true, true, true, true, true, true, true, true, true, true, true, true, true, true, true, true, true, true, true, true, true, false, false, false, false, false, false, false, false, false, false, false, false, false, false, false, false] rfl rfl (any_of HT_.out (by kernel_rfl)) (fun _ _ _ h => h) (Or.inl ⟨by rfl, ?_⟩) ?_ ?_
      rotate_left
      ·
       intro w'
       go_simp
       with_reducible rfl
      rotate_left
      ·
       simp only [Act.put, sI_, s0_, s1_, i64_w, i32_w]
       rfl
      refine take_ (i := 26) (N := some 41) (v := ?_) (a' := ?_) #[true, true, true, true, true, true, true, true, true, true, true, true, true, true, true, true, true, true, true, true, true, true, true, true, true, true, true, false, false, false, false, false, false, false, false, false, false, false, false, false, false, false] rfl rfl (take_ofW HT_.out HW_.out (by kernel_rfl)) (fun _ _ _ h => h) (Or.inl ⟨by rfl, ?_⟩) hHeld ?_ ?_
      rotate_left
      ·
       rintro w' ⟨s0, s1, s2, s3, s4, s5, s6, s7⟩
       go_simp
       with_reducible rfl
      rotate_left
      ·
       simp only [Act.put, sI_, s0_, s1_, i64_w, i32_w]
       rfl
      refine take_ (i := 28) (N := some 43) (v := ?_) (a' := ?_) #[true, true, true, true, true, true, true, true, true, true, true, true, true, true, true, true, true, true, true, true, true, true, true, true, true, true, true, false, true, false, false, false, false, false, false, false, false, false, false, false, false, false] rfl rfl (take_ofW HT_.out HW_.out (by kernel_rfl)) (fun _ _ _ h => h) (Or.inl ⟨by rfl, ?_⟩) hHeld ?_ ?_
      rotate_left
      ·
       rintro w' ⟨s0, s1, s2, s3, s4, s5, s6, s7⟩
       go_simp
       with_reducible rfl
      rotate_left
      ·
       simp only [Act.put, sI_, s0_, s1_, i64_w, i32_w]
       rfl
      refine one_ (i := 27) (N := some 42) #[true, true, true, true, true, true, true, true, true, true, true, true, true, true, true, true, true, true, true, true, true, true, true, true, true, true, true, true, true, false, false, false, false, false, false, false, false, false, false, false, false, false] rfl rfl (one_of HT_.out (by kernel_rfl)) (by decide) (fun K hK => ?_)
      refine goes_ Try.func25 (by kernel_rfl) rfl #[.agg #[.bool t653, .slice Ao33 t654.length co33]] (by rfl) rfl rfl (by (try simp only [List.map_toArray, List.map_cons, List.map_nil]); rfl) ?_
      with_reducible refine (whole_Neg.calls k t653 _ _ t654 t698 t699 _ ?side1 ?side2 A19.out).mono ?_
      (case side1 => exact (Kd.R_reads' HO656.out).2.2)
      (case side2 => exact (Kd.R_reads' HO656.out).2.1)
      rintro e w68 ⟨v700, rfl, ho0, hb⟩
      refine ⟨_, rfl, ?_⟩
      replace HO664 := am (Kd.R_below HO664.out hb)
      replace HO668 := am (Kd.R_below HO668.out hb)
      replace HO678 := am (Kd.V_elder' HO678.out (Kd.R_base ho0) hb)
      replace HO687 := am (Kd.V_elder' HO687.out (Kd.R_base ho0) hb)
      replace HO696 := am (Kd.V_elder' HO696.out (Kd.R_base ho0) hb)
      have HO701 := am (Kd.R_lower (Kd.R_new' (Kd.R_new' (Kd.R_new' (Kd.R_new' (Kd.R_new' ho0 (Kd.R_lt HO656.out)) (Kd.R_lt HO660.out)) (Kd.R_lt HO674.out)) (Kd.R_lt HO683.out)) (Kd.R_lt HO692.out)) (below_size HB.out))
      replace HO656 := am (Kd.R_elder' HO656.out (Kd.R_base ho0) hb)
      replace HO660 := am (Kd.R_elder' HO660.out (Kd.R_base ho0) hb)
      replace HO674 := am (Kd.R_elder' HO674.out (Kd.R_base ho0) hb)
      replace HO683 := am (Kd.R_elder' HO683.out (Kd.R_base ho0) hb)
      replace HO692 := am (Kd.R_elder' HO692.out (Kd.R_base ho0) hb)
      replace BK651 := am (blk_below BK651.out hb)
      replace BK652 := am (blk_below BK652.out hb)
      replace BK669 := am (blk_below BK669.out hb)
      replace BK670 := am (blk_below BK670.out hb)
      replace HB := am (below_step HB.out hb)
      try clear hb
      try clear ho0
      refine hK.out _ _ ⟨(blk_cell BK651.out 0).trans rfl, (blk_cell BK651.out 1).trans rfl, (blk_cell BK652.out 0).trans rfl, (blk_cell BK652.out 1).trans rfl, (blk_cell BK669.out 0).trans rfl, (blk_cell BK669.out 1).trans rfl, (blk_cell BK670.out 0).trans rfl, (blk_cell BK670.out 1).trans rfl⟩ (fun hHeld => ?_)
      clear hK K
      refine norm_ (a' := ?_) ?_ ?_
      rotate_left
      ·
       show Act.put _ (some 42) _ = _
       simp only [Act.put, sI_, s0_, s1_, i64_w, i32_w]
       rfl
      refine one_ (i := 29) (N := some 44) #[true, true, true, true, true, true, true, true, true, true, true, true, true, true, true, true, true, true, true, true, true, true, true, true, true, true, true, true, true, true, false, false, false, false, false, false, false, false, false, false, false, false] rfl rfl (one_of HT_.out (by kernel_rfl)) (by decide) (fun K hK => ?_)
      refine goes_ Try.func26 (by kernel_rfl) rfl #[.agg #[.int .i64 t661, .slice Ao46 t662.length co46]] (by rfl) rfl rfl (by (try simp only [List.map_toArray, List.map_cons, List.map_nil]); rfl) ?_
      with_reducible refine (zelligeref04_Neg.calls t661 (fun k_ => some k_ = (.slice Ao46 t662.length co46 : Value).ownBlock) _ _ t662 t702 t703 _ ?side1 A20.out).mono ?_
      (case side1 => exact Kd.R_V (Kd.R_tight rfl (Kd.R_types (Kd.R_types (Kd.R_types (Kd.R_types (Kd.R_apart' (Kd.R_apart' (Kd.R_apart' (Kd.R_apart' (Kd.R_apart' (Kd.R_apart' (HO664.out) (Kd.R_typed HO656.out) (by decide)) (Kd.R_typed HO660.out) (by decide)) (Kd.R_typed HO674.out) (by decide)) (Kd.R_typed HO683.out) (by decide)) (Kd.R_typed HO692.out) (by decide)) (Kd.R_typed HO701.out) (by decide)) BK651.out (by decide)) BK652.out (by decide)) BK669.out (by decide)) BK670.out (by decide))))
      rintro e w69 ⟨v704, rfl, ho0, hb⟩
      refine ⟨_, rfl, ?_⟩
      replace HO678 := am (Kd.V_below HO678.out hb)
      replace HO687 := am (Kd.V_below HO687.out hb)
      replace HO696 := am (Kd.V_below HO696.out hb)
      have Z0_ := (Kd.R_types (Kd.R_types (Kd.R_types (Kd.R_types (Kd.R_apart' (Kd.R_apart' (Kd.R_apart' (Kd.R_apart' (Kd.R_apart' (Kd.R_apart' (HO664.out) (Kd.R_typed HO656.out) (by decide)) (Kd.R_typed HO660.out) (by decide)) (Kd.R_typed HO674.out) (by decide)) (Kd.R_typed HO683.out) (by decide)) (Kd.R_typed HO692.out) (by decide)) (Kd.R_typed HO701.out) (by decide)) BK651.out (by decide)) BK652.out (by decide)) BK669.out (by decide)) BK670.out (by decide))
      have HO705 := am (Kd.V_lower (Kd.V_mono (ok' := fun k_ => some k_ ≠ (.slice Ao33 t654.length co33 : Value).ownBlock ∧ some k_ ≠ (.slice Ao36 t658.length co36 : Value).ownBlock ∧ some k_ ≠ (.slice Ao49 t666.length co49 : Value).ownBlock ∧ some k_ ≠ (.slice Ao55 t672.length co55 : Value).ownBlock ∧ some k_ ≠ (.slice Ao60 t681.length co60 : Value).ownBlock ∧ some k_ ≠ (.slice Ao65 t690.length co65 : Value).ownBlock ∧ some k_ ≠ (v700 : Value).ownBlock ∧ k_ ≠ gb651 ∧ k_ ≠ gb652 ∧ k_ ≠ gb669 ∧ k_ ≠ gb670) ho0 (fun k_ hk_ => ⟨Or.elim hk_ (fun hs_ => (Z0_.1 k_ hs_.symm).1.1.1.1.1.1.1.1.1.2) (fun hn_ => (Kd.fresh' (Kd.R_lt HO656.out) k_ hn_)), Or.elim hk_ (fun hs_ => (Z0_.1 k_ hs_.symm).1.1.1.1.1.1.1.1.2) (fun hn_ => (Kd.fresh' (Kd.R_lt HO660.out) k_ hn_)), Or.elim hk_ (fun hs_ => (Z0_.1 k_ hs_.symm).1.1.1.1.1.1.1.1.1.1) (fun hn_ => (Kd.fresh' (Kd.R_lt HO668.out) k_ hn_)), Or.elim hk_ (fun hs_ => (Z0_.1 k_ hs_.symm).1.1.1.1.1.1.1.2) (fun hn_ => (Kd.fresh' (Kd.R_lt HO674.out) k_ hn_)), Or.elim hk_ (fun hs_ => (Z0_.1 k_ hs_.symm).1.1.1.1.1.1.2) (fun hn_ => (Kd.fresh' (Kd.R_lt HO683.out) k_ hn_)), Or.elim hk_ (fun hs_ => (Z0_.1 k_ hs_.symm).1.1.1.1.1.2) (fun hn_ => (Kd.fresh' (Kd.R_lt HO692.out) k_ hn_)), Or.elim hk_ (fun hs_ => (Z0_.1 k_ hs_.symm).1.1.1.1.2) (fun hn_ => (Kd.fresh' (Kd.R_lt HO701.out) k_ hn_)), Or.elim hk_ (fun hs_ => (Z0_.1 k_ hs_.symm).1.1.1.2) (fun hn_ => (Kd.freshB BK651.out k_ hn_)), Or.elim hk_ (fun hs_ => (Z0_.1 k_ hs_.symm).1.1.2) (fun hn_ => (Kd.freshB BK652.out k_ hn_)), Or.elim hk_ (fun hs_ => (Z0_.1 k_ hs_.symm).1.2) (fun hn_ => (Kd.freshB BK669.out k_ hn_)), Or.elim hk_ (fun hs_ => (Z0_.1 k_ hs_.symm).2) (fun hn_ => (Kd.freshB BK670.out k_ hn_))⟩)) (below_size HB.out))
      clear Z0_
      replace HO656 := am (Kd.R_below HO656.out hb)
      replace HO660 := am (Kd.R_below HO660.out hb)
      replace HO664 := am (Kd.R_below HO664.out hb)
      replace HO668 := am (Kd.R_below HO668.out hb)
      replace HO674 := am (Kd.R_below HO674.out hb)
      replace HO683 := am (Kd.R_below HO683.out hb)
      replace HO692 := am (Kd.R_below HO692.out hb)
      replace HO701 := am (Kd.R_below HO701.out hb)
      replace BK651 := am (blk_below BK651.out hb)
      replace BK652 := am (blk_below BK652.out hb)
      replace BK669 := am (blk_below BK669.out hb)
      replace BK670 := am (blk_below BK670.out hb)
      replace HB := am (below_step HB.out hb)
      try clear hb
      try clear ho0
      obtain ⟨Ao70, co70, eo70⟩ := Kd.R_slice HO701.out
      (subst eo70)
      obtain ⟨Ao71, co71, eo71⟩ := Kd.V_slice HO705.out
      (subst eo71)
      refine hK.out _ _ ⟨(blk_cell BK651.out 0).trans rfl, (blk_cell BK651.out 1).trans rfl, (blk_cell BK652.out 0).trans rfl, (blk_cell BK652.out 1).trans rfl, (blk_cell BK669.out 0).trans rfl, (blk_cell BK669.out 1).trans rfl, (blk_cell BK670.out 0).trans rfl, (blk_cell BK670.out 1).trans rfl⟩ (fun hHeld => ?_)
      clear hK K
      refine norm_ (a' := ?_) ?_ ?_
      rotate_left
      ·
       show Act.put _ (some 44) _ = _
       simp only [Act.put, sI_, s0_, s1_, i64_w, i32_w]
       rfl
      refine one_ (i := 30) (N := some 45) #[true, true, true, true, true, true, true, true, true, true, true, true, true, true, true, true, true, true, true, true, true, true, true, true, true, true, true, true, true, true, true, false, false, false, false, false, false, false, false, false, false, false] rfl rfl (one_of HT_.out (by kernel_rfl)) (by decide) (fun K hK => ?_)
      refine goes_ Try.func14 (by kernel_rfl) rfl #[.agg #[.bool t698, .slice Ao70 t699.length co70], .agg #[.int .i64 t702, .slice Ao71 t703.length co71]] (by rfl) rfl rfl (by (try simp only [List.map_toArray, List.map_cons, List.map_nil]); rfl) ?_
      with_reducible refine (zelligeref04_Same.calls k t698 _ _ t699 t702 _ _ t703 true _ ?side1 ?side2 ?side3 ?side4 A21.out).mono ?_
      (case side1 => exact (Kd.R_reads' HO701.out).2.2)
      (case side2 => exact (Kd.R_reads' HO701.out).2.1)
      (case side3 => exact (Kd.V_reads' HO705.out).2.2)
      (case side4 => exact (Kd.V_reads' HO705.out).2.1)
      rintro e w72 ⟨rfl, hb⟩
      refine ⟨_, rfl, ?_⟩
      replace HO656 := am (Kd.R_below HO656.out hb)
      replace HO660 := am (Kd.R_below HO660.out hb)
      replace HO664 := am (Kd.R_below HO664.out hb)
      replace HO668 := am (Kd.R_below HO668.out hb)
      replace HO674 := am (Kd.R_below HO674.out hb)
      replace HO678 := am (Kd.V_below HO678.out hb)
      replace HO683 := am (Kd.R_below HO683.out hb)
      replace HO687 := am (Kd.V_below HO687.out hb)
      replace HO692 := am (Kd.R_below HO692.out hb)
      replace HO696 := am (Kd.V_below HO696.out hb)
      replace HO701 := am (Kd.R_below HO701.out hb)
      replace HO705 := am (Kd.V_below HO705.out hb)
      replace BK651 := am (blk_below BK651.out hb)
      replace BK652 := am (blk_below BK652.out hb)
      replace BK669 := am (blk_below BK669.out hb)
      replace BK670 := am (blk_below BK670.out hb)
      replace HB := am (below_step HB.out hb)
      (try clear hb)
      refine hK.out _ _ ⟨(blk_cell BK651.out 0).trans rfl, (blk_cell BK651.out 1).trans rfl, (blk_cell BK652.out 0).trans rfl, (blk_cell BK652.out 1).trans rfl, (blk_cell BK669.out 0).trans rfl, (blk_cell BK669.out 1).trans rfl, (blk_cell BK670.out 0).trans rfl, (blk_cell BK670.out 1).trans rfl⟩ (fun hHeld => ?_)
      clear hK K
      refine norm_ (a' := ?_) ?_ ?_
      rotate_left
      ·
       show Act.put _ (some 45) _ = _
       simp only [Act.put, sI_, s0_, s1_, i64_w, i32_w]
       rfl
      refine pure_ (i := 31) (N := some 46) (v := ?_) (a' := ?_) #[true, true, true, true, true, true, true, true, true, true, true, true, true, true, true, true, true, true, true, true, true, true, true, true, true, true, true, true, true, true, true, true, false, false, false, false, false, false, false, false, false, false] rfl rfl (any_of HT_.out (by kernel_rfl)) (fun _ _ _ h => h) (Or.inl ⟨by rfl, ?_⟩) ?_ ?_
      rotate_left
      ·
       intro w'
       go_simp
       with_reducible rfl
      rotate_left
      ·
       simp only [Act.put, sI_, s0_, s1_, i64_w, i32_w]
       rfl
      refine pure_ (i := 32) (N := some 47) (v := ?_) (a' := ?_) #[true, true, true, true, true, true, true, true, true, true, true, true, true, true, true, true, true, true, true, true, true, true, true, true, true, true, true, true, true, true, true, true, true, false, false, false, false, false, false, false, false, false] rfl rfl (any_of HT_.out (by kernel_rfl)) (fun _ _ _ h => h) (Or.inl ⟨by rfl, ?_⟩) ?_ ?_
      rotate_left
      ·
       intro w'
       go_simp
       with_reducible rfl
      rotate_left
      ·
       simp only [Act.put, sI_, s0_, s1_, i64_w, i32_w]
       rfl
      refine take_ (i := 33) (N := some 48) (v := ?_) (a' := ?_) #[true, true, true, true, true, true, true, true, true, true, true, true, true, true, true, true, true, true, true, true, true, true, true, true, true, true, true, true, true, true, true, true, true, true, false, false, false, false, false, false, false, false] rfl rfl (take_ofW HT_.out HW_.out (by kernel_rfl)) (fun _ _ _ h => h) (Or.inl ⟨by rfl, ?_⟩) hHeld ?_ ?_
      rotate_left
      ·
       rintro w' ⟨s0, s1, s2, s3, s4, s5, s6, s7⟩
       go_simp
       with_reducible rfl
      rotate_left
      ·
       simp only [Act.put, sI_, s0_, s1_, i64_w, i32_w]
       rfl
      refine take_ (i := 35) (N := some 50) (v := ?_) (a' := ?_) #[true, true, true, true, true, true, true, true, true, true, true, true, true, true, true, true, true, true, true, true, true, true, true, true, true, true, true, true, true, true, true, true, true, true, false, true, false, false, false, false, false, false] rfl rfl (take_ofW HT_.out HW_.out (by kernel_rfl)) (fun _ _ _ h => h) (Or.inl ⟨by rfl, ?_⟩) hHeld ?_ ?_
      rotate_left
      ·
       rintro w' ⟨s0, s1, s2, s3, s4, s5, s6, s7⟩
       go_simp
       with_reducible rfl
      rotate_left
      ·
       simp only [Act.put, sI_, s0_, s1_, i64_w, i32_w]
       rfl
      refine one_ (i := 34) (N := some 49) #[true, true, true, true, true, true, true, true, true, true, true, true, true, true, true, true, true, true, true, true, true, true, true, true, true, true, true, true, true, true, true, true, true, true, true, true, false, false, false, false, false, false] rfl rfl (one_of HT_.out (by kernel_rfl)) (by decide) (fun K hK => ?_)
      refine goes_ Try.func27 (by kernel_rfl) rfl #[.agg #[.bool t653, .slice Ao33 t654.length co33]] (by rfl) rfl rfl (by (try simp only [List.map_toArray, List.map_cons, List.map_nil]); rfl) ?_
      with_reducible refine (whole_Norm.calls k t653 _ _ t654 t707 t708 _ ?side1 ?side2 A23.out).mono ?_
      (case side1 => exact (Kd.R_reads' HO656.out).2.2)
      (case side2 => exact (Kd.R_reads' HO656.out).2.1)
      rintro e w73 ⟨v709, rfl, ho0, hb⟩
      refine ⟨_, rfl, ?_⟩
      replace HO664 := am (Kd.R_below HO664.out hb)
      replace HO668 := am (Kd.R_below HO668.out hb)
      replace HO678 := am (Kd.V_elder' HO678.out (Kd.R_base ho0) hb)
      replace HO687 := am (Kd.V_elder' HO687.out (Kd.R_base ho0) hb)
      replace HO696 := am (Kd.V_elder' HO696.out (Kd.R_base ho0) hb)
      replace HO705 := am (Kd.V_elder' HO705.out (Kd.R_base ho0) hb)
      have HO710 := am (Kd.R_lower (Kd.R_new' (Kd.R_new' (Kd.R_new' (Kd.R_new' (Kd.R_new' (Kd.R_new' ho0 (Kd.R_lt HO656.out)) (Kd.R_lt HO660.out)) (Kd.R_lt HO674.out)) (Kd.R_lt HO683.out)) (Kd.R_lt HO692.out)) (Kd.R_lt HO701.out)) (below_size HB.out))
      replace HO656 := am (Kd.R_elder' HO656.out (Kd.R_base ho0) hb)
      replace HO660 := am (Kd.R_elder' HO660.out (Kd.R_base ho0) hb)
      replace HO674 := am (Kd.R_elder' HO674.out (Kd.R_base ho0) hb)
      replace HO683 := am (Kd.R_elder' HO683.out (Kd.R_base ho0) hb)
      replace HO692 := am (Kd.R_elder' HO692.out (Kd.R_base ho0) hb)
      replace HO701 := am (Kd.R_elder' HO701.out (Kd.R_base ho0) hb)
      replace BK651 := am (blk_below BK651.out hb)
      replace BK652 := am (blk_below BK652.out hb)
      replace BK669 := am (blk_below BK669.out hb)
      replace BK670 := am (blk_below BK670.out hb)
      replace HB := am (below_step HB.out hb)
      try clear hb
      try clear ho0
      obtain ⟨Ao74, co74, eo74⟩ := Kd.R_slice HO710.out
      (subst eo74)
      refine hK.out _ _ ⟨(blk_cell BK651.out 0).trans rfl, (blk_cell BK651.out 1).trans rfl, (blk_cell BK652.out 0).trans rfl, (blk_cell BK652.out 1).trans rfl, (blk_cell BK669.out 0).trans rfl, (blk_cell BK669.out 1).trans rfl, (blk_cell BK670.out 0).trans rfl, (blk_cell BK670.out 1).trans rfl⟩ (fun hHeld => ?_)
      clear hK K
      refine norm_ (a' := ?_) ?_ ?_
      rotate_left
      ·
       show Act.put _ (some 49) _ = _
       simp only [Act.put, sI_, s0_, s1_, i64_w, i32_w]
       rfl
      refine one_ (i := 36) (N := some 51) #[true, true, true, true, true, true, true, true, true, true, true, true, true, true, true, true, true, true, true, true, true, true, true, true, true, true, true, true, true, true, true, true, true, true, true, true, true, false, false, false, false, false] rfl rfl (one_of HT_.out (by kernel_rfl)) (by decide) (fun K hK => ?_)
      refine goes_ Try.func14 (by kernel_rfl) rfl #[.agg #[.bool t707, .slice Ao74 t708.length co74], .agg #[.int .i64 t661, .slice Ao46 t662.length co46]] (by rfl) rfl rfl (by (try simp only [List.map_toArray, List.map_cons, List.map_nil]); rfl) ?_
      with_reducible refine (zelligeref04_Same.calls k t707 _ _ t708 t661 _ _ t662 true _ ?side1 ?side2 ?side3 ?side4 A24.out).mono ?_
      (case side1 => exact (Kd.R_reads' HO710.out).2.2)
      (case side2 => exact (Kd.R_reads' HO710.out).2.1)
      (case side3 => exact (Kd.R_reads' HO664.out).2.2)
      (case side4 => exact (Kd.R_reads' HO664.out).2.1)
      rintro e w75 ⟨rfl, hb⟩
      refine ⟨_, rfl, ?_⟩
      replace HO656 := am (Kd.R_below HO656.out hb)
      replace HO660 := am (Kd.R_below HO660.out hb)
      replace HO664 := am (Kd.R_below HO664.out hb)
      replace HO668 := am (Kd.R_below HO668.out hb)
      replace HO674 := am (Kd.R_below HO674.out hb)
      replace HO678 := am (Kd.V_below HO678.out hb)
      replace HO683 := am (Kd.R_below HO683.out hb)
      replace HO687 := am (Kd.V_below HO687.out hb)
      replace HO692 := am (Kd.R_below HO692.out hb)
      replace HO696 := am (Kd.V_below HO696.out hb)
      replace HO701 := am (Kd.R_below HO701.out hb)
      replace HO705 := am (Kd.V_below HO705.out hb)
      replace HO710 := am (Kd.R_below HO710.out hb)
      replace BK651 := am (blk_below BK651.out hb)
      replace BK652 := am (blk_below BK652.out hb)
      replace BK669 := am (blk_below BK669.out hb)
      replace BK670 := am (blk_below BK670.out hb)
      replace HB := am (below_step HB.out hb)
      (try clear hb)
      refine hK.out _ _ ⟨(blk_cell BK651.out 0).trans rfl, (blk_cell BK651.out 1).trans rfl, (blk_cell BK652.out 0).trans rfl, (blk_cell BK652.out 1).trans rfl, (blk_cell BK669.out 0).trans rfl, (blk_cell BK669.out 1).trans rfl, (blk_cell BK670.out 0).trans rfl, (blk_cell BK670.out 1).trans rfl⟩ (fun hHeld => ?_)
      clear hK K
      refine norm_ (a' := ?_) ?_ ?_
      rotate_left
      ·
       show Act.put _ (some 51) _ = _
       simp only [Act.put, sI_, s0_, s1_, i64_w, i32_w]
       rfl
      refine pure_ (i := 37) (N := some 52) (v := ?_) (a' := ?_) #[true, true, true, true, true, true, true, true, true, true, true, true, true, true, true, true, true, true, true, true, true, true, true, true, true, true, true, true, true, true, true, true, true, true, true, true, true, true, false, false, false, false] rfl rfl (any_of HT_.out (by kernel_rfl)) (fun _ _ _ h => h) (Or.inl ⟨by rfl, ?_⟩) ?_ ?_
      rotate_left
      ·
       intro w'
       go_simp
       with_reducible rfl
      rotate_left
      ·
       simp only [Act.put, sI_, s0_, s1_, i64_w, i32_w]
       rfl
      refine pure_ (i := 38) (N := some 53) (v := ?_) (a' := ?_) #[true, true, true, true, true, true, true, true, true, true, true, true, true, true, true, true, true, true, true, true, true, true, true, true, true, true, true, true, true, true, true, true, true, true, true, true, true, true, true, false, false, false] rfl rfl (any_of HT_.out (by kernel_rfl)) (fun _ _ _ h => h) (Or.inl ⟨by rfl, ?_⟩) ?_ ?_
      rotate_left
      ·
       intro w'
       go_simp
       with_reducible rfl
      rotate_left
      ·
       simp only [Act.put, sI_, s0_, s1_, i64_w, i32_w]
       rfl
      refine one_ (i := 39) (N := some 54) #[true, true, true, true, true, true, true, true, true, true, true, true, true, true, true, true, true, true, true, true, true, true, true, true, true, true, true, true, true, true, true, true, true, true, true, true, true, true, true, true, false, false] rfl rfl (one_of HT_.out (by kernel_rfl)) (by decide) (fun K hK => ?_)
      refine goes_ Try.func15 (by kernel_rfl) rfl #[] (by rfl) rfl rfl (by (try simp only [List.map_toArray, List.map_cons, List.map_nil]); done) ?_
      with_reducible refine (zelligelaw04_lives.calls k  t712 _ A26.out).mono ?_
      rintro e w76 ⟨rfl, hb⟩
      refine ⟨_, rfl, ?_⟩
      replace HO656 := am (Kd.R_below HO656.out hb)
      replace HO660 := am (Kd.R_below HO660.out hb)
      replace HO664 := am (Kd.R_below HO664.out hb)
      replace HO668 := am (Kd.R_below HO668.out hb)
      replace HO674 := am (Kd.R_below HO674.out hb)
      replace HO678 := am (Kd.V_below HO678.out hb)
      replace HO683 := am (Kd.R_below HO683.out hb)
      replace HO687 := am (Kd.V_below HO687.out hb)
      replace HO692 := am (Kd.R_below HO692.out hb)
      replace HO696 := am (Kd.V_below HO696.out hb)
      replace HO701 := am (Kd.R_below HO701.out hb)
      replace HO705 := am (Kd.V_below HO705.out hb)
      replace HO710 := am (Kd.R_below HO710.out hb)
      replace BK651 := am (blk_below BK651.out hb)
      replace BK652 := am (blk_below BK652.out hb)
      replace BK669 := am (blk_below BK669.out hb)
      replace BK670 := am (blk_below BK670.out hb)
      replace HB := am (below_step HB.out hb)
      (try clear hb)
      refine hK.out _ _ ⟨(blk_cell BK651.out 0).trans rfl, (blk_cell BK651.out 1).trans rfl, (blk_cell BK652.out 0).trans rfl, (blk_cell BK652.out 1).trans rfl, (blk_cell BK669.out 0).trans rfl, (blk_cell BK669.out 1).trans rfl, (blk_cell BK670.out 0).trans rfl, (blk_cell BK670.out 1).trans rfl⟩ (fun hHeld => ?_)
      clear hK K
      refine norm_ (a' := ?_) ?_ ?_
      rotate_left
      ·
       show Act.put _ (some 54) _ = _
       simp only [Act.put, sI_, s0_, s1_, i64_w, i32_w]
       rfl
      refine pure_ (i := 40) (N := some 55) (v := ?_) (a' := ?_) #[true, true, true, true, true, true, true, true, true, true, true, true, true, true, true, true, true, true, true, true, true, true, true, true, true, true, true, true, true, true, true, true, true, true, true, true, true, true, true, true, true, false] rfl rfl (any_of HT_.out (by kernel_rfl)) (fun _ _ _ h => h) (Or.inl ⟨by rfl, ?_⟩) ?_ ?_
      rotate_left
      ·
       intro w'
       go_simp
       with_reducible rfl
      rotate_left
      ·
       simp only [Act.put, sI_, s0_, s1_, i64_w, i32_w]
       rfl
      refine pure_ (i := 41) (N := some 4) (v := ?_) (a' := ?_) #[true, true, true, true, true, true, true, true, true, true, true, true, true, true, true, true, true, true, true, true, true, true, true, true, true, true, true, true, true, true, true, true, true, true, true, true, true, true, true, true, true, true] rfl rfl (any_of HT_.out (by kernel_rfl)) (fun _ _ _ h => h) (Or.inl ⟨by rfl, ?_⟩) ?_ ?_
      rotate_left
      ·
       intro w'
       go_simp
       with_reducible rfl
      rotate_left
      ·
       simp only [Act.put, sI_, s0_, s1_, i64_w, i32_w]
       rfl
      refine done_ (done_of HT_.out (by kernel_rfl)) ?_
      try go_wp2
      go_ret
      exact ⟨by rfl, by with_reducible exact HB.out⟩
     ·
      replace c25 := Bool.eq_false_iff.mpr c25
      subst c25
      rw [if_neg (show ¬ (false = true) by decide)] at H
      exact absurd (Option.some.inj (H.trans (congrArg some hT.out))) (by decide)
    ·
     replace c22 := Bool.eq_false_iff.mpr c22
     subst c22
     rw [if_neg (show ¬ (false = true) by decide)] at H
     exact absurd (Option.some.inj (H.trans (congrArg some hT.out))) (by decide)
   ·
    replace c18 := Bool.eq_false_iff.mpr c18
    subst c18
    rw [if_neg (show ¬ (false = true) by decide)] at H
    exact absurd (Option.some.inj (H.trans (congrArg some hT.out))) (by decide)
  ·
   replace c14 := Bool.eq_false_iff.mpr c14
   subst c14
   rw [if_neg (show ¬ (false = true) by decide)] at H
   exact absurd (Option.some.inj (H.trans (congrArg some hT.out))) (by decide)
 ·
  replace c10 := Bool.eq_false_iff.mpr c10
  subst c10
  rw [if_neg (show ¬ (false = true) by decide)] at H
  exact absurd (Option.some.inj (H.trans (congrArg some hT.out))) (by decide)

end Go.Proofs.Ytmfmojldebhboaa.ZWhole
