-- printed by zprint.py, a program of this session's
import Derived.Test.YtmfmojldebhboaaZWhole0
import Derived.Test.YtmfmojldebhboaaZWholegLive4
import Derived.Test.YtmfmojldebhboaaZWholegQOf
import Derived.Test.YtmfmojldebhboaaZWholegQSmall
import Derived.Test.YtmfmojldebhboaaZWholegQSub
import Derived.Test.YtmfmojldebhboaaZWholegShort4
import Derived.Test.YtmfmojldebhboaaZWholegSize
import Derived.Test.YtmfmojldebhboaaZWholegWCmp
import Derived.Test.YtmfmojldebhboaaZWholegWSmall
namespace Go.Proofs.Ytmfmojldebhboaa.ZWhole
open Go.RowKit Go.Proofs.YtmfmojldebhboaaW.PrintWords Go.Proofs.YtmfmojldebhboaaW.PrintLast Go.Proofs.YtmfmojldebhboaaW.PrintMore
set_option linter.unusedVariables false
set_option linter.unusedSimpArgs false

/-! ### zelligelaw04_WholeOrders: function 5 -/
def zelligelaw04_WholeOrders.f (k : Nat) (a0_0 : Bool) (l0_1 : List Int) (a1_0 : Bool) (l1_1 : List Int) : Option (Bool) := (zelligelaw04_Short.f a0_0 l0_1).bind fun bt875 => ((zelligelaw04_Short.f a1_0 l1_1).bind fun bt879 => ((zelligeref04_Of.f k bt875.1 bt875.2).bind fun bt883 => ((zelligeref04_Of.f k bt879.1 bt879.2).bind fun bt887 => ((whole_Small.f k bt875.1 bt875.2).bind fun bt893 => ((zelligeref04_Small.f k bt883.1 bt883.2).bind fun bt895 => ((whole_Cmp.f k bt875.1 bt875.2 bt879.1 bt879.2).bind fun t897 => ((zelligeref04_Cmp.f k bt883.1 bt883.2 bt887.1 bt887.2).bind fun t898 => (if t897 = t898 then ((whole_Sign.f k bt875.1 bt875.2).bind fun t899 => (if t899 = bt883.1 then (if bt893.1 = bt895.1 then (if (bt893.2 == bt895.2) = true then ((zelligelaw04_lives.f k).bind fun t900 => (some t900)) else (some false)) else (some false)) else (some false))) else (some false)))))))))
theorem zelligelaw04_WholeOrders.mono : ∀ a0 a1 a2 a3 k, LeO (zelligelaw04_WholeOrders.f k a0 a1 a2 a3) (zelligelaw04_WholeOrders.f (k + 1) a0 a1 a2 a3) := by
 intro a0 a1 a2 a3 k
 unfold zelligelaw04_WholeOrders.f
 repeat' first
   | (with_reducible exact whole_Cmp.mono _ _ _ _ _)
   | (with_reducible exact whole_Sign.mono _ _ _)
   | (with_reducible exact whole_Small.mono _ _ _)
   | (with_reducible exact zelligelaw04_lives.mono _)
   | (with_reducible exact zelligeref04_Cmp.mono _ _ _ _ _)
   | (with_reducible exact zelligeref04_Of.mono _ _ _)
   | (with_reducible exact zelligeref04_Small.mono _ _ _)
   | (with_reducible exact LeO.refl _)
   | (with_reducible refine LeO.ite ?_ ?_)
   | (with_reducible refine LeO.bind ?_ (fun _ => ?_))
def zelligelaw04_WholeOrders.T2 : Bool × List (List Nat × List Nat) := (true, [([], []), ([0], [0]), ([], []), ([2, 1], [2]), ([], []), ([], []), ([4, 1, 3, 0, 1, 4, 5], [1, 4]), ([5, 3, 6, 0, 1, 2, 3, 4, 5, 6], [3, 5])])
def zelligelaw04_WholeOrders.B2 : List Nat := [0, 1, 0, 7, 0, 0, 63, 127]
theorem zelligelaw04_WholeOrders.tab2 : rtab .any (opsOf Try.f5 2) = zelligelaw04_WholeOrders.T2 := by kernel_rfl
theorem zelligelaw04_WholeOrders.bits2 : waitsOk zelligelaw04_WholeOrders.T2.2 zelligelaw04_WholeOrders.B2 = true := by kernel_rfl
def zelligelaw04_WholeOrders.T5 : Bool × List (List Nat × List Nat) := (true, [([], []), ([], []), ([0, 1], [0, 1]), ([], []), ([], []), ([3, 4, 2], [3, 4]), ([2, 5], [2, 5]), ([6, 5], [6]), ([7], [7]), ([8, 7, 7], [7, 8]), ([7], [7]), ([10, 7], [7, 10]), ([9, 11, 7], [7, 9, 11]), ([7, 12], [7, 12]), ([13, 9], [13]), ([14], [14]), ([14], [14]), ([15, 16, 14], [14, 15, 16]), ([14, 17], [14, 17]), ([18, 14], [18]), ([19], [19]), ([19], [19]), ([20, 21, 19], [19, 20, 21]), ([19, 22], [19, 22]), ([23, 19], [23]), ([24, 24], [24]), ([24, 25], [24, 25]), ([26, 25, 0, 1, 2, 3, 4, 5, 6, 7, 8, 9, 10, 11, 12, 13, 14, 15, 16, 17, 18, 19, 20, 21, 22, 23, 24, 25, 26], [26])])
def zelligelaw04_WholeOrders.B5 : List Nat := [0, 0, 3, 0, 0, 31, 63, 127, 255, 511, 255, 1279, 4095, 8191, 16383, 32767, 32767, 131071, 262143, 524287, 1048575, 1048575, 4194303, 8388607, 16777215, 33554431, 67108863, 134217727]
theorem zelligelaw04_WholeOrders.tab5 : rtab .any (opsOf Try.f5 5) = zelligelaw04_WholeOrders.T5 := by kernel_rfl
theorem zelligelaw04_WholeOrders.bits5 : waitsOk zelligelaw04_WholeOrders.T5.2 zelligelaw04_WholeOrders.B5 = true := by kernel_rfl
set_option maxHeartbeats 8000000 in
set_option maxRecDepth 100000 in
theorem zelligelaw04_WholeOrders.calls (k : Nat) (a0_0 : Bool) (A0_1 : Option Addr) (c0_1 : Nat) (l0_1 : List Int) (a1_0 : Bool) (A1_1 : Option Addr) (c1_1 : Nat) (l1_1 : List Int) (r : Bool) (w : World) (hr0_1 : Kd.C (Kd.int .u32) w A0_1 l0_1.length l0_1) (hc0_1 : l0_1.length ≤ c0_1) (hr1_1 : Kd.C (Kd.int .u32) w A1_1 l1_1.length l1_1) (hc1_1 : l1_1.length ≤ c1_1) (h : zelligelaw04_WholeOrders.f k a0_0 l0_1 a1_0 l1_1 = some r) (hT : Aside0 (r = true)) :
  Calls Try.prog 5 #[.agg #[.bool a0_0, .slice A0_1 l0_1.length c0_1], .agg #[.bool a1_0, .slice A1_1 l1_1.length c1_1]] w fun e w' => e = .returned (.bool r) ∧ Below w.heap.size w w' := by
 have hu25 := Try.underlying25
 have hu33 := Try.underlying33
 have HR0_1 := am hr0_1
 have HC0_1 := am hc0_1
 clear hr0_1 hc0_1
 have HR1_1 := am hr1_1
 have HC1_1 := am hc1_1
 clear hr1_1 hc1_1
 have HB := am (Below.refl w.heap.size w)
 have H : ((zelligelaw04_Short.f a0_0 l0_1).bind fun bt875 => ((zelligelaw04_Short.f a1_0 l1_1).bind fun bt879 => ((zelligeref04_Of.f k bt875.1 bt875.2).bind fun bt883 => ((zelligeref04_Of.f k bt879.1 bt879.2).bind fun bt887 => ((whole_Small.f k bt875.1 bt875.2).bind fun bt893 => ((zelligeref04_Small.f k bt883.1 bt883.2).bind fun bt895 => ((whole_Cmp.f k bt875.1 bt875.2 bt879.1 bt879.2).bind fun t897 => ((zelligeref04_Cmp.f k bt883.1 bt883.2 bt887.1 bt887.2).bind fun t898 => (if t897 = t898 then ((whole_Sign.f k bt875.1 bt875.2).bind fun t899 => (if t899 = bt883.1 then (if bt893.1 = bt895.1 then (if (bt893.2 == bt895.2) = true then ((zelligelaw04_lives.f k).bind fun t900 => (some t900)) else (some false)) else (some false)) else (some false))) else (some false)))))))))) = some r := h
 clear h
 obtain ⟨⟨t875, t876⟩, A3, H⟩ := bindE H
 replace H : ((zelligelaw04_Short.f a1_0 l1_1).bind fun bt879 => ((zelligeref04_Of.f k t875 t876).bind fun bt883 => ((zelligeref04_Of.f k bt879.1 bt879.2).bind fun bt887 => ((whole_Small.f k t875 t876).bind fun bt893 => ((zelligeref04_Small.f k bt883.1 bt883.2).bind fun bt895 => ((whole_Cmp.f k t875 t876 bt879.1 bt879.2).bind fun t897 => ((zelligeref04_Cmp.f k bt883.1 bt883.2 bt887.1 bt887.2).bind fun t898 => (if t897 = t898 then ((whole_Sign.f k t875 t876).bind fun t899 => (if t899 = bt883.1 then (if bt893.1 = bt895.1 then (if (bt893.2 == bt895.2) = true then ((zelligelaw04_lives.f k).bind fun t900 => (some t900)) else (some false)) else (some false)) else (some false))) else (some false))))))))) = some r := H
 obtain ⟨⟨t879, t880⟩, A4, H⟩ := bindE H
 replace H : ((zelligeref04_Of.f k t875 t876).bind fun bt883 => ((zelligeref04_Of.f k t879 t880).bind fun bt887 => ((whole_Small.f k t875 t876).bind fun bt893 => ((zelligeref04_Small.f k bt883.1 bt883.2).bind fun bt895 => ((whole_Cmp.f k t875 t876 t879 t880).bind fun t897 => ((zelligeref04_Cmp.f k bt883.1 bt883.2 bt887.1 bt887.2).bind fun t898 => (if t897 = t898 then ((whole_Sign.f k t875 t876).bind fun t899 => (if t899 = bt883.1 then (if bt893.1 = bt895.1 then (if (bt893.2 == bt895.2) = true then ((zelligelaw04_lives.f k).bind fun t900 => (some t900)) else (some false)) else (some false)) else (some false))) else (some false)))))))) = some r := H
 obtain ⟨⟨t883, t884⟩, A5, H⟩ := bindE H
 replace H : ((zelligeref04_Of.f k t879 t880).bind fun bt887 => ((whole_Small.f k t875 t876).bind fun bt893 => ((zelligeref04_Small.f k t883 t884).bind fun bt895 => ((whole_Cmp.f k t875 t876 t879 t880).bind fun t897 => ((zelligeref04_Cmp.f k t883 t884 bt887.1 bt887.2).bind fun t898 => (if t897 = t898 then ((whole_Sign.f k t875 t876).bind fun t899 => (if t899 = t883 then (if bt893.1 = bt895.1 then (if (bt893.2 == bt895.2) = true then ((zelligelaw04_lives.f k).bind fun t900 => (some t900)) else (some false)) else (some false)) else (some false))) else (some false))))))) = some r := H
 obtain ⟨⟨t887, t888⟩, A6, H⟩ := bindE H
 replace H : ((whole_Small.f k t875 t876).bind fun bt893 => ((zelligeref04_Small.f k t883 t884).bind fun bt895 => ((whole_Cmp.f k t875 t876 t879 t880).bind fun t897 => ((zelligeref04_Cmp.f k t883 t884 t887 t888).bind fun t898 => (if t897 = t898 then ((whole_Sign.f k t875 t876).bind fun t899 => (if t899 = t883 then (if bt893.1 = bt895.1 then (if (bt893.2 == bt895.2) = true then ((zelligelaw04_lives.f k).bind fun t900 => (some t900)) else (some false)) else (some false)) else (some false))) else (some false)))))) = some r := H
 obtain ⟨⟨t893, t894⟩, A7, H⟩ := bindE H
 replace H : ((zelligeref04_Small.f k t883 t884).bind fun bt895 => ((whole_Cmp.f k t875 t876 t879 t880).bind fun t897 => ((zelligeref04_Cmp.f k t883 t884 t887 t888).bind fun t898 => (if t897 = t898 then ((whole_Sign.f k t875 t876).bind fun t899 => (if t899 = t883 then (if t893 = bt895.1 then (if (t894 == bt895.2) = true then ((zelligelaw04_lives.f k).bind fun t900 => (some t900)) else (some false)) else (some false)) else (some false))) else (some false))))) = some r := H
 obtain ⟨⟨t895, t896⟩, A8, H⟩ := bindE H
 replace H : ((whole_Cmp.f k t875 t876 t879 t880).bind fun t897 => ((zelligeref04_Cmp.f k t883 t884 t887 t888).bind fun t898 => (if t897 = t898 then ((whole_Sign.f k t875 t876).bind fun t899 => (if t899 = t883 then (if t893 = t895 then (if (t894 == t896) = true then ((zelligelaw04_lives.f k).bind fun t900 => (some t900)) else (some false)) else (some false)) else (some false))) else (some false)))) = some r := H
 obtain ⟨t897, A9, H⟩ := bindE H
 obtain ⟨t898, A10, H⟩ := bindE H
 by_cases c11 : t897 = t898
 ·
  rw [if_pos c11] at H
  have c11b0 : (t897 == t898) = true := beq_iff_eq.mpr c11
  have c11b1 : (t897 != t898) = false := bne_eq_false_iff_eq.mpr c11
  clear c11
  obtain ⟨t899, A12, H⟩ := bindE H
  by_cases c13 : t899 = t883
  ·
   rw [if_pos c13] at H
   have c13b0 : (t899 == t883) = true := beq_iff_eq.mpr c13
   have c13b1 : (t899 != t883) = false := bne_eq_false_iff_eq.mpr c13
   clear c13
   by_cases c14 : t893 = t895
   ·
    rw [if_pos c14] at H
    have c14b0 : (t893 == t895) = true := beq_iff_eq.mpr c14
    have c14b1 : (t893 != t895) = false := bne_eq_false_iff_eq.mpr c14
    clear c14
    by_cases c15 : (t894 == t896) = true
    ·
     rw [if_pos c15] at H
     have c15b0 : (t894 == t896) = true := c15
     (try (have c15b1 : decide (t894 = t896) = true := by simpa using c15))
     (try (have c15b2 : (t894 == t896) = true := by simpa using c15))
     clear c15
     obtain ⟨t900, A16, H⟩ := bindE H
     obtain rfl := Option.some.inj H
     go_enter Try.func5, Try.ntmps5
     try go_wp2_with (first | ((with_reducible refine gate_dst (N := 2) rfl ?_); refine box_event ?hg (N := 2) ?hd (cs := #[.bool a0_0, .slice A0_1 l0_1.length c0_1]) (t := 25) ?hr ?_; (case hd => rfl); (case hg => rfl); (case hr => (go_simp; done)); intro gb873 hg w17 hbox hb; have BK873 := am hbox; have GW873 := am (gel hg HB.out); have GE873 := am (gel hg HB.out); replace HB := am (below_step HB.out hb); clear hb hbox hg) | ((with_reducible refine gate_dst (N := 3) rfl ?_); refine box_event ?hg (N := 3) ?hd (cs := #[.bool a1_0, .slice A1_1 l1_1.length c1_1]) (t := 25) ?hr ?_; (case hd => rfl); (case hg => rfl); (case hr => (go_simp; done)); intro gb874 hg w18 hbox hb; have BK874 := am hbox; have GW874 := am (gel hg HB.out); have GE874 := am (gel hg HB.out); replace HB := am (below_step HB.out hb); have NB873_874 := am (nel hg BK873.out); have NB874_873 := am (ner hg BK873.out); replace BK873 := am (blk_below BK873.out hb); clear hb hbox hg))
     replace BK873 := am (blk_drew BK873.out)
     replace BK874 := am (blk_drew BK874.out)
     replace HB := am (below_drew1 HB.out)
     refine start_ (n := 6) (S := fun w' => w'.cell? ⟨gb873, 0, none⟩ = some (.bool a0_0) ∧ w'.cell? ⟨gb873, 1, none⟩ = some (.slice A0_1 l0_1.length c0_1) ∧ w'.cell? ⟨gb874, 0, none⟩ = some (.bool a1_0) ∧ w'.cell? ⟨gb874, 1, none⟩ = some (.slice A1_1 l1_1.length c1_1)) (ds := [4, 5]) #[false, false, false, false, false, false] (by kernel_rfl) rfl rfl ⟨(blk_cell BK873.out 0).trans rfl, (blk_cell BK873.out 1).trans rfl, (blk_cell BK874.out 0).trans rfl, (blk_cell BK874.out 1).trans rfl⟩ (fun hHeld => ?_)
     generalize w18.drew = w19 at BK873 BK874 HB hHeld ⊢
     refine take_ (i := 0) (N := some 11) (v := ?_) (a' := ?_) #[true, false, false, false, false, false] rfl rfl (by kernel_rfl) (fun _ _ _ h => h) (Or.inl ⟨by rfl, ?_⟩) hHeld ?_ ?_
     rotate_left
     ·
      rintro w' ⟨s0, s1, s2, s3⟩
      go_simp
      with_reducible rfl
     rotate_left
     ·
      simp only [Act.put, sI_, s0_, s1_, i64_w, i32_w]
      rfl
     refine take_ (i := 2) (N := some 13) (v := ?_) (a' := ?_) #[true, false, true, false, false, false] rfl rfl (by kernel_rfl) (fun _ _ _ h => h) (Or.inl ⟨by rfl, ?_⟩) hHeld ?_ ?_
     rotate_left
     ·
      rintro w' ⟨s0, s1, s2, s3⟩
      go_simp
      with_reducible rfl
     rotate_left
     ·
      simp only [Act.put, sI_, s0_, s1_, i64_w, i32_w]
      rfl
     refine one_ (i := 1) (N := some 12) #[true, true, true, false, false, false] rfl rfl (by kernel_rfl) (by decide) (fun K hK => ?_)
     refine goes_ Try.func11 (by kernel_rfl) rfl #[.agg #[.bool a0_0, .slice A0_1 l0_1.length c0_1]] (by rfl) rfl rfl (by (try simp only [List.map_toArray, List.map_cons, List.map_nil]); rfl) ?_
     with_reducible refine (zelligelaw04_Short.calls a0_0 _ _ l0_1 t875 t876 _ ?side1 ?side2 A3.out).mono ?_
     (case side1 => repeat (exact (Kd.C_below HR0_1.out HB.out)))
     (case side2 => exact HC0_1.out)
     rintro e w20 ⟨v877, rfl, ho0, hb⟩
     refine ⟨_, rfl, ?_⟩
     have HO878 := am (Kd.R_lower ho0 (below_size HB.out))
     replace BK873 := am (blk_below BK873.out hb)
     replace BK874 := am (blk_below BK874.out hb)
     replace HB := am (below_step HB.out hb)
     try clear hb
     try clear ho0
     refine hK.out _ _ ⟨(blk_cell BK873.out 0).trans rfl, (blk_cell BK873.out 1).trans rfl, (blk_cell BK874.out 0).trans rfl, (blk_cell BK874.out 1).trans rfl⟩ (fun hHeld => ?_)
     clear hK K
     refine norm_ (a' := ?_) ?_ ?_
     rotate_left
     ·
      show Act.put _ (some 12) _ = _
      simp only [Act.put, sI_, s0_, s1_, i64_w, i32_w]
      rfl
     refine one_ (i := 3) (N := some 14) #[true, true, true, true, false, false] rfl rfl (by kernel_rfl) (by decide) (fun K hK => ?_)
     refine goes_ Try.func11 (by kernel_rfl) rfl #[.agg #[.bool a1_0, .slice A1_1 l1_1.length c1_1]] (by rfl) rfl rfl (by (try simp only [List.map_toArray, List.map_cons, List.map_nil]); rfl) ?_
     with_reducible refine (zelligelaw04_Short.calls a1_0 _ _ l1_1 t879 t880 _ ?side1 ?side2 A4.out).mono ?_
     (case side1 => repeat (exact (Kd.C_below HR1_1.out HB.out)))
     (case side2 => exact HC1_1.out)
     rintro e w21 ⟨v881, rfl, ho0, hb⟩
     refine ⟨_, rfl, ?_⟩
     have HO882 := am (Kd.R_lower (Kd.R_new' ho0 (Kd.R_lt HO878.out)) (below_size HB.out))
     replace HO878 := am (Kd.R_elder' HO878.out (Kd.R_base ho0) hb)
     replace BK873 := am (blk_below BK873.out hb)
     replace BK874 := am (blk_below BK874.out hb)
     replace HB := am (below_step HB.out hb)
     try clear hb
     try clear ho0
     obtain ⟨Ao23, co23, eo23⟩ := Kd.R_slice HO878.out
     (subst eo23)
     obtain ⟨Ao26, co26, eo26⟩ := Kd.R_slice HO882.out
     (subst eo26)
     refine hK.out _ _ ⟨(blk_cell BK873.out 0).trans rfl, (blk_cell BK873.out 1).trans rfl, (blk_cell BK874.out 0).trans rfl, (blk_cell BK874.out 1).trans rfl⟩ (fun hHeld => ?_)
     clear hK K
     refine norm_ (a' := ?_) ?_ ?_
     rotate_left
     ·
      show Act.put _ (some 14) _ = _
      simp only [Act.put, sI_, s0_, s1_, i64_w, i32_w]
      rfl
     refine last_ (i := 4) (N := none) #[true, true, true, true, true, false] rfl rfl (by kernel_rfl) (by decide) (fun K hK => ?_)
     have hs22 : w21.cell? ⟨gb873, 0, none⟩ = some (.bool a0_0) := (blk_cell BK873.out 0).trans rfl
     have hfs22 := blk_frozen BK873.out 0
     have hns22_1 := NB874_873.out
     have hms22_1 := NB873_874.out
     have hs24 : w21.cell? ⟨gb873, 1, none⟩ = some (.slice A0_1 l0_1.length c0_1) := (blk_cell BK873.out 1).trans rfl
     have hfs24 := blk_frozen BK873.out 1
     have hns24_1 := NB874_873.out
     have hms24_1 := NB873_874.out
     refine skip_ (w1 := ?_) (by rfl) rfl ?_ ?_
     rotate_left
     ·
      go_simp
      rfl
     refine hK.out _ _ ?_
     clear hK K
     refine last_ (i := 5) (N := none) #[true, true, true, true, true, true] rfl rfl (by kernel_rfl) (by decide) (fun K hK => ?_)
     have hs25 : w21.cell? ⟨gb874, 0, none⟩ = some (.bool a1_0) := (blk_cell BK874.out 0).trans rfl
     have hfs25 := blk_frozen BK874.out 0
     have hns25_0 := NB873_874.out
     have hms25_0 := NB874_873.out
     have hs27 : w21.cell? ⟨gb874, 1, none⟩ = some (.slice A1_1 l1_1.length c1_1) := (blk_cell BK874.out 1).trans rfl
     have hfs27 := blk_frozen BK874.out 1
     have hns27_0 := NB873_874.out
     have hms27_0 := NB874_873.out
     refine skip_ (w1 := ?_) (by rfl) rfl ?_ ?_
     rotate_left
     ·
      go_simp
      rfl
     refine hK.out _ _ ?_
     clear hK K
     refine done_ (by kernel_rfl) ?_
     try go_wp2
     have n0_ : Aside0 (Kd.R (Kd.int .u32) 78 ((((w21.setCell ⟨gb873, 0, none⟩ (.bool t875)).setCell ⟨gb873, 1, none⟩ (.slice Ao23 t876.length co23)).setCell ⟨gb874, 0, none⟩ (.bool t879)).setCell ⟨gb874, 1, none⟩ (.slice Ao26 t880.length co26)) w.heap.size (fun k_ => some k_ ≠ (.slice Ao26 t880.length co26 : Value).ownBlock) (.slice Ao23 t876.length co23) t876) := ⟨by exact Kd.R_mono (Kd.R_far (p := ⟨gb874, 1, none⟩) (Kd.R_far (p := ⟨gb874, 0, none⟩) (Kd.R_far (p := ⟨gb873, 1, none⟩) (Kd.R_far (p := ⟨gb873, 0, none⟩) (Kd.R_types (Kd.R_types HO878.out BK873.out (by decide)) BK874.out (by decide)) (fun _ hk => by exact hk.1.2) (.bool t875)) (fun _ hk => by exact hk.1.2) (.slice Ao23 t876.length co23)) (fun _ hk => by exact hk.2) (.bool t879)) (fun _ hk => by exact hk.2) (.slice Ao26 t880.length co26)) (fun _ hk => hk.1.1.2)⟩
     have n1_ : Aside0 (Kd.R (Kd.int .u32) 78 ((((w21.setCell ⟨gb873, 0, none⟩ (.bool t875)).setCell ⟨gb873, 1, none⟩ (.slice Ao23 t876.length co23)).setCell ⟨gb874, 0, none⟩ (.bool t879)).setCell ⟨gb874, 1, none⟩ (.slice Ao26 t880.length co26)) w.heap.size (fun k_ => some k_ ≠ (.slice Ao23 t876.length co23 : Value).ownBlock) (.slice Ao26 t880.length co26) t880) := ⟨by exact Kd.R_mono (Kd.R_far (p := ⟨gb874, 1, none⟩) (Kd.R_far (p := ⟨gb874, 0, none⟩) (Kd.R_far (p := ⟨gb873, 1, none⟩) (Kd.R_far (p := ⟨gb873, 0, none⟩) (Kd.R_types (Kd.R_types HO882.out BK873.out (by decide)) BK874.out (by decide)) (fun _ hk => by exact hk.1.2) (.bool t875)) (fun _ hk => by exact hk.1.2) (.slice Ao23 t876.length co23)) (fun _ hk => by exact hk.2) (.bool t879)) (fun _ hk => by exact hk.2) (.slice Ao26 t880.length co26)) (fun _ hk => hk.1.1.2)⟩
     have n2_ : Aside0 (((((w21.setCell ⟨gb873, 0, none⟩ (.bool t875)).setCell ⟨gb873, 1, none⟩ (.slice Ao23 t876.length co23)).setCell ⟨gb874, 0, none⟩ (.bool t879)).setCell ⟨gb874, 1, none⟩ (.slice Ao26 t880.length co26)).heap[gb873]? = some (.cells #[.bool t875, .slice Ao23 t876.length co23] 25 (0, 0))) := ⟨by refine blk_far ?_ NB873_874.out _; refine blk_far ?_ NB873_874.out _; refine blk_put (cs := #[.bool t875, .slice A0_1 l0_1.length c0_1]) ?_ 1 _ rfl; refine blk_put (cs := #[.bool a0_0, .slice A0_1 l0_1.length c0_1]) ?_ 0 _ rfl; exact BK873.out⟩
     have n3_ : Aside0 (((((w21.setCell ⟨gb873, 0, none⟩ (.bool t875)).setCell ⟨gb873, 1, none⟩ (.slice Ao23 t876.length co23)).setCell ⟨gb874, 0, none⟩ (.bool t879)).setCell ⟨gb874, 1, none⟩ (.slice Ao26 t880.length co26)).heap[gb874]? = some (.cells #[.bool t879, .slice Ao26 t880.length co26] 25 (0, 0))) := ⟨by refine blk_put (cs := #[.bool t879, .slice A1_1 l1_1.length c1_1]) ?_ 1 _ rfl; refine blk_put (cs := #[.bool a1_0, .slice A1_1 l1_1.length c1_1]) ?_ 0 _ rfl; refine blk_far ?_ NB874_873.out _; refine blk_far ?_ NB874_873.out _; exact BK874.out⟩
     have n4_ : Aside0 (Below w.heap.size w ((((w21.setCell ⟨gb873, 0, none⟩ (.bool t875)).setCell ⟨gb873, 1, none⟩ (.slice Ao23 t876.length co23)).setCell ⟨gb874, 0, none⟩ (.bool t879)).setCell ⟨gb874, 1, none⟩ (.slice Ao26 t880.length co26))) := ⟨by repeat ((with_reducible first | exact HB.out | refine below_set ?_ GE873.out | refine below_set ?_ GE874.out))⟩
     try clear HO878
     try clear HO882
     try clear BK873
     try clear BK874
     (try clear HB)
     generalize ((((w21.setCell ⟨gb873, 0, none⟩ (.bool t875)).setCell ⟨gb873, 1, none⟩ (.slice Ao23 t876.length co23)).setCell ⟨gb874, 0, none⟩ (.bool t879)).setCell ⟨gb874, 1, none⟩ (.slice Ao26 t880.length co26)) = w28 at n0_ n1_ n2_ n3_ n4_ ⊢
     have HO878 := n0_
     have HO882 := n1_
     have BK873 := n2_
     have BK874 := n3_
     have HB := n4_
     clear n0_ n1_ n2_ n3_ n4_
     replace HO878 := am (Kd.R_drew HO878.out)
     replace HO882 := am (Kd.R_drew HO882.out)
     replace BK873 := am (blk_drew BK873.out)
     replace BK874 := am (blk_drew BK874.out)
     replace HB := am (below_drew1 HB.out)
     refine start_ (n := 8) (S := fun w' => True) (ds := []) #[false, false, false, false, false, false, false, false] (by kernel_rfl) rfl rfl trivial (fun hHeld => ?_); refine with_tabW zelligelaw04_WholeOrders.tab2 zelligelaw04_WholeOrders.bits2 (fun HT_ HW_ => ?_)
     generalize w28.drew = w29 at HO878 HO882 BK873 BK874 HB hHeld ⊢
     refine inv_at [0, 1, 2, 3, 4, 5, 6, 7] (fun a0_ b a w' => ∃ (v885 : Value) (v889 : Value) (gb891 : Nat) (gb892 : Nat) (m1_ : Value) (m3_ : Value) (m4_ : Value) (m5_ : Value), a = putSel a0_ b [(0, 15, .agg #[.bool t875, .slice Ao23 t876.length co23]), (1, 16, m1_), (2, 17, .agg #[.bool t879, .slice Ao26 t880.length co26]), (3, 18, m3_), (4, 5, m4_), (5, 6, m5_)] ∧ (Kd.R (Kd.int .u32) 78 w' w.heap.size (fun k_ => some k_ ≠ (.slice Ao26 t880.length co26 : Value).ownBlock) (.slice Ao23 t876.length co23) t876) ∧ (Kd.R (Kd.int .u32) 78 w' w.heap.size (fun k_ => some k_ ≠ (.slice Ao23 t876.length co23 : Value).ownBlock) (.slice Ao26 t880.length co26) t880) ∧ (w'.heap[gb873]? = some (.cells #[.bool t875, .slice Ao23 t876.length co23] 25 (0, 0))) ∧ (w'.heap[gb874]? = some (.cells #[.bool t879, .slice Ao26 t880.length co26] 25 (0, 0))) ∧ (Below w.heap.size w w') ∧ (b 4 = true → b 5 = true → gb892 ≠ gb891) ∧ (b 4 = true → b 5 = true → gb891 ≠ gb892) ∧ (b 1 = true → Kd.R (Kd.int .i64) 3 w' w.heap.size (fun _ => True) v885 t884) ∧ (b 3 = true → Kd.R (Kd.int .i64) 3 w' w.heap.size (fun _ => True) v889 t888) ∧ (b 4 = true → b 6 = false → w'.heap[gb891]? = some (.cells #[.int .i64 0, .slice none 0 0] 33 (0, 0))) ∧ (b 4 = true → w.heap.size ≤ gb891) ∧ (b 4 = true → w.heap.size ≤ gb891) ∧ (b 4 = true → gb873 ≠ gb891) ∧ (b 4 = true → gb891 ≠ gb873) ∧ (b 4 = true → gb874 ≠ gb891) ∧ (b 4 = true → gb891 ≠ gb874) ∧ (b 5 = true → b 7 = false → w'.heap[gb892]? = some (.cells #[.int .i64 0, .slice none 0 0] 33 (0, 0))) ∧ (b 5 = true → w.heap.size ≤ gb892) ∧ (b 5 = true → w.heap.size ≤ gb892) ∧ (b 5 = true → gb873 ≠ gb892) ∧ (b 5 = true → gb892 ≠ gb873) ∧ (b 5 = true → gb874 ≠ gb892) ∧ (b 5 = true → gb892 ≠ gb874) ∧ (b 6 = true → w'.heap[gb891]? = some (.cells #[.int .i64 t883, v885] 33 (0, 0))) ∧ (b 7 = true → w'.heap[gb892]? = some (.cells #[.int .i64 t887, v889] 33 (0, 0))) ∧ (b 1 = true → (m1_ : Value) = .agg #[.int .i64 t883, v885]) ∧ (b 3 = true → (m3_ : Value) = .agg #[.int .i64 t887, v889]) ∧ (b 4 = true → (m4_ : Value) = .pointer (some ⟨gb891, 0, none⟩)) ∧ (b 5 = true → (m5_ : Value) = .pointer (some ⟨gb892, 0, none⟩))) HT_.out HW_.out (by kernel_rfl) (by kernel_rfl) ?_ ?_ ?_
     ·
      exact ⟨.bool false, .bool false, 0, 0, .bool false, .bool false, .bool false, .bool false, by simp only [putSel, Bool.false_eq_true, if_false], HO878.out, HO882.out, BK873.out, BK874.out, HB.out, fun h_ => absurd h_ (by decide), fun h_ => absurd h_ (by decide), fun h_ => absurd h_ (by decide), fun h_ => absurd h_ (by decide), fun h_ => absurd h_ (by decide), fun h_ => absurd h_ (by decide), fun h_ => absurd h_ (by decide), fun h_ => absurd h_ (by decide), fun h_ => absurd h_ (by decide), fun h_ => absurd h_ (by decide), fun h_ => absurd h_ (by decide), fun h_ => absurd h_ (by decide), fun h_ => absurd h_ (by decide), fun h_ => absurd h_ (by decide), fun h_ => absurd h_ (by decide), fun h_ => absurd h_ (by decide), fun h_ => absurd h_ (by decide), fun h_ => absurd h_ (by decide), fun h_ => absurd h_ (by decide), fun h_ => absurd h_ (by decide), fun h_ => absurd h_ (by decide), fun h_ => absurd h_ (by decide), fun h_ => absurd h_ (by decide), fun h_ => absurd h_ (by decide)⟩
     ·
      skip
      clear BK873 BK874 HB HO878 HO882
      refine steps_cons ?_ ?_
      ·
       rintro b a w' ⟨v885, v889, gb891, gb892, m1_, m3_, m4_, m5_, ha, Q_HO878, Q_HO882, Q_BK873, Q_BK874, Q_HB, Q_NB892_891, Q_NB891_892, Q_HO886, Q_HO890, Q_BK891, Q_GW891, Q_GE891, Q_NB873_891, Q_NB891_873, Q_NB874_891, Q_NB891_874, Q_BK892, Q_GW892, Q_GE892, Q_NB873_892, Q_NB892_873, Q_NB874_892, Q_NB892_874, Q_BK891_e6, Q_BK892_e7, Q_X1_, Q_X3_, Q_X4_, Q_X5_⟩ hb_ hon hoff
       refine ⟨_, rfl, fun K hK => ?_⟩
       have e2 : a.tmps[2]? = some (.pointer (some ⟨gb873, 0, none⟩)) := by rw [ha]; exact (putSel_off rfl).trans rfl
       replace ha := am ha
       have HO878 := am Q_HO878
       have HO882 := am Q_HO882
       have BK873 := am Q_BK873
       have BK874 := am Q_BK874
       have HB := am Q_HB
       have hc0_ : w'.cell? ⟨gb873, 0, none⟩ = some (.bool t875) := (blk_cell BK873.out 0).trans rfl
       have hc1_ : w'.cell? ⟨gb873, 1, none⟩ = some (.slice Ao23 t876.length co23) := (blk_cell BK873.out 1).trans rfl
       refine value_ (w1 := w') (v := .agg #[.bool t875, .slice Ao23 t876.length co23]) (by rfl) rfl ?_ ?_
       ·
        go_simp
       refine hK.out _ _ ⟨v885, v889, gb891, gb892, m1_, m3_, m4_, m5_, (by rw [ha.out]; exact putSel_upk 0 hb_ rfl rfl rfl), Q_HO878, Q_HO882, Q_BK873, Q_BK874, Q_HB, Q_NB892_891, Q_NB891_892, fun h0_ => absurd ((hoff 1 (by kernel_rfl)).symm.trans h0_) (by decide), fun h0_ => absurd ((hoff 3 (by kernel_rfl)).symm.trans h0_) (by decide), Q_BK891, Q_GW891, Q_GE891, Q_NB873_891, Q_NB891_873, Q_NB874_891, Q_NB891_874, Q_BK892, Q_GW892, Q_GE892, Q_NB873_892, Q_NB892_873, Q_NB874_892, Q_NB892_874, fun h0_ => absurd ((hoff 6 (by kernel_rfl)).symm.trans h0_) (by decide), fun h0_ => absurd ((hoff 7 (by kernel_rfl)).symm.trans h0_) (by decide), fun h0_ => absurd ((hoff 1 (by kernel_rfl)).symm.trans h0_) (by decide), fun h0_ => absurd ((hoff 3 (by kernel_rfl)).symm.trans h0_) (by decide), Q_X4_, Q_X5_⟩
      refine steps_cons ?_ ?_
      ·
       rintro b a w' ⟨v885, v889, gb891, gb892, m1_, m3_, m4_, m5_, ha, Q_HO878, Q_HO882, Q_BK873, Q_BK874, Q_HB, Q_NB892_891, Q_NB891_892, Q_HO886, Q_HO890, Q_BK891, Q_GW891, Q_GE891, Q_NB873_891, Q_NB891_873, Q_NB874_891, Q_NB891_874, Q_BK892, Q_GW892, Q_GE892, Q_NB873_892, Q_NB892_873, Q_NB874_892, Q_NB892_874, Q_BK891_e6, Q_BK892_e7, Q_X1_, Q_X3_, Q_X4_, Q_X5_⟩ hb_ hon hoff
       refine ⟨_, rfl, fun K hK => ?_⟩
       have e15 : a.tmps[15]? = some (.agg #[.bool t875, .slice Ao23 t876.length co23]) := by rw [ha]; exact putSel_on (e := (0, 15, .agg #[.bool t875, .slice Ao23 t876.length co23])) 0 rfl rfl (hon 0 (by kernel_rfl)) rfl
       replace ha := am ha
       have HO878 := am Q_HO878
       have HO882 := am Q_HO882
       have BK873 := am Q_BK873
       have BK874 := am Q_BK874
       have HB := am Q_HB
       refine goes_ Try.func13 (by kernel_rfl) rfl #[.agg #[.bool t875, .slice Ao23 t876.length co23]] (by rfl) rfl rfl (by (simp only [List.map_toArray, List.map_cons, List.map_nil, Act.eval, Array.getD_eq_getD_getElem?, Option.getD_some, e15]; done)) ?_
       with_reducible refine (zelligeref04_Of.calls k t875 _ _ t876 t883 t884 _ ?side1 ?side2 A5.out).mono ?_
       (case side1 => exact (Kd.R_reads' HO878.out).2.2)
       (case side2 => exact (Kd.R_reads' HO878.out).2.1)
       rintro e w30 ⟨v885, rfl, ho0, hb⟩
       refine ⟨_, rfl, ?_⟩
       have n0_ := am (Kd.R_below HO878.out hb)
       have n1_ := am (Kd.R_below HO882.out hb)
       have n2_ := am (Kd.R_lower ho0 (below_size HB.out))
       have n3_ := am (blk_below BK873.out hb)
       have n4_ := am (blk_below BK874.out hb)
       have n5_ := am (below_step HB.out hb)
       have z_BK891 := fun (h0_ : b 4 = true) (h1_ : b 6 = false) => (show w30.heap[gb891]? = some (.cells #[.int .i64 0, .slice none 0 0] 33 (0, 0)) from by exact (blk_below (g := gb891) (o := .cells #[.int .i64 0, .slice none 0 0] 33 (0, 0)) (by exact (Q_BK891 h0_ h1_)) hb))
       have z_BK892 := fun (h0_ : b 5 = true) (h1_ : b 7 = false) => (show w30.heap[gb892]? = some (.cells #[.int .i64 0, .slice none 0 0] 33 (0, 0)) from by exact (blk_below (g := gb892) (o := .cells #[.int .i64 0, .slice none 0 0] 33 (0, 0)) (by exact (Q_BK892 h0_ h1_)) hb))
       clear HO878
       clear HO882
       clear BK873
       clear BK874
       clear HB
       have HO878 := n0_
       have HO882 := n1_
       have HO886 := n2_
       have BK873 := n3_
       have BK874 := n4_
       have HB := n5_
       clear n0_ n1_ n2_ n3_ n4_ n5_
       try clear hb
       try clear ho0
       refine hK.out _ _ ⟨v885, v889, gb891, gb892, (.agg #[.int .i64 t883, v885]), m3_, m4_, m5_, (by rw [ha.out]; exact putSel_upk 1 hb_ rfl rfl rfl), HO878.out, HO882.out, BK873.out, BK874.out, HB.out, Q_NB892_891, Q_NB891_892, fun _ => HO886.out, fun h0_ => absurd ((hoff 3 (by kernel_rfl)).symm.trans h0_) (by decide), z_BK891, Q_GW891, Q_GE891, Q_NB873_891, Q_NB891_873, Q_NB874_891, Q_NB891_874, z_BK892, Q_GW892, Q_GE892, Q_NB873_892, Q_NB892_873, Q_NB874_892, Q_NB892_874, fun h0_ => absurd ((hoff 6 (by kernel_rfl)).symm.trans h0_) (by decide), fun h0_ => absurd ((hoff 7 (by kernel_rfl)).symm.trans h0_) (by decide), fun _ => rfl, fun h0_ => absurd ((hoff 3 (by kernel_rfl)).symm.trans h0_) (by decide), Q_X4_, Q_X5_⟩
      refine steps_cons ?_ ?_
      ·
       rintro b a w' ⟨v885, v889, gb891, gb892, m1_, m3_, m4_, m5_, ha, Q_HO878, Q_HO882, Q_BK873, Q_BK874, Q_HB, Q_NB892_891, Q_NB891_892, Q_HO886, Q_HO890, Q_BK891, Q_GW891, Q_GE891, Q_NB873_891, Q_NB891_873, Q_NB874_891, Q_NB891_874, Q_BK892, Q_GW892, Q_GE892, Q_NB873_892, Q_NB892_873, Q_NB874_892, Q_NB892_874, Q_BK891_e6, Q_BK892_e7, Q_X1_, Q_X3_, Q_X4_, Q_X5_⟩ hb_ hon hoff
       refine ⟨_, rfl, fun K hK => ?_⟩
       have e3 : a.tmps[3]? = some (.pointer (some ⟨gb874, 0, none⟩)) := by rw [ha]; exact (putSel_off rfl).trans rfl
       replace ha := am ha
       have HO878 := am Q_HO878
       have HO882 := am Q_HO882
       have BK873 := am Q_BK873
       have BK874 := am Q_BK874
       have HB := am Q_HB
       have hc0_ : w'.cell? ⟨gb874, 0, none⟩ = some (.bool t879) := (blk_cell BK874.out 0).trans rfl
       have hc1_ : w'.cell? ⟨gb874, 1, none⟩ = some (.slice Ao26 t880.length co26) := (blk_cell BK874.out 1).trans rfl
       refine value_ (w1 := w') (v := .agg #[.bool t879, .slice Ao26 t880.length co26]) (by rfl) rfl ?_ ?_
       ·
        go_simp
       refine hK.out _ _ ⟨v885, v889, gb891, gb892, m1_, m3_, m4_, m5_, (by rw [ha.out]; exact putSel_upk 2 hb_ rfl rfl rfl), Q_HO878, Q_HO882, Q_BK873, Q_BK874, Q_HB, Q_NB892_891, Q_NB891_892, Q_HO886, fun h0_ => absurd ((hoff 3 (by kernel_rfl)).symm.trans h0_) (by decide), Q_BK891, Q_GW891, Q_GE891, Q_NB873_891, Q_NB891_873, Q_NB874_891, Q_NB891_874, Q_BK892, Q_GW892, Q_GE892, Q_NB873_892, Q_NB892_873, Q_NB874_892, Q_NB892_874, fun h0_ => absurd ((hoff 6 (by kernel_rfl)).symm.trans h0_) (by decide), fun h0_ => absurd ((hoff 7 (by kernel_rfl)).symm.trans h0_) (by decide), Q_X1_, fun h0_ => absurd ((hoff 3 (by kernel_rfl)).symm.trans h0_) (by decide), Q_X4_, Q_X5_⟩
      refine steps_cons ?_ ?_
      ·
       rintro b a w' ⟨v885, v889, gb891, gb892, m1_, m3_, m4_, m5_, ha, Q_HO878, Q_HO882, Q_BK873, Q_BK874, Q_HB, Q_NB892_891, Q_NB891_892, Q_HO886, Q_HO890, Q_BK891, Q_GW891, Q_GE891, Q_NB873_891, Q_NB891_873, Q_NB874_891, Q_NB891_874, Q_BK892, Q_GW892, Q_GE892, Q_NB873_892, Q_NB892_873, Q_NB874_892, Q_NB892_874, Q_BK891_e6, Q_BK892_e7, Q_X1_, Q_X3_, Q_X4_, Q_X5_⟩ hb_ hon hoff
       refine ⟨_, rfl, fun K hK => ?_⟩
       have e17 : a.tmps[17]? = some (.agg #[.bool t879, .slice Ao26 t880.length co26]) := by rw [ha]; exact putSel_on (e := (2, 17, .agg #[.bool t879, .slice Ao26 t880.length co26])) 2 rfl rfl (hon 2 (by kernel_rfl)) rfl
       replace ha := am ha
       have HO878 := am Q_HO878
       have HO882 := am Q_HO882
       have BK873 := am Q_BK873
       have BK874 := am Q_BK874
       have HB := am Q_HB
       have HO886 := am (Q_HO886 (hon 1 (by kernel_rfl)))
       refine goes_ Try.func13 (by kernel_rfl) rfl #[.agg #[.bool t879, .slice Ao26 t880.length co26]] (by rfl) rfl rfl (by (simp only [List.map_toArray, List.map_cons, List.map_nil, Act.eval, Array.getD_eq_getD_getElem?, Option.getD_some, e17]; done)) ?_
       with_reducible refine (zelligeref04_Of.calls k t879 _ _ t880 t887 t888 _ ?side1 ?side2 A6.out).mono ?_
       (case side1 => exact (Kd.R_reads' HO882.out).2.2)
       (case side2 => exact (Kd.R_reads' HO882.out).2.1)
       rintro e w32 ⟨v889, rfl, ho0, hb⟩
       refine ⟨_, rfl, ?_⟩
       have n0_ := am (Kd.R_below HO878.out hb)
       have n1_ := am (Kd.R_below HO882.out hb)
       have n2_ := am (Kd.R_elder' HO886.out (Kd.R_base ho0) hb)
       have n3_ := am (Kd.R_lower (Kd.R_new' ho0 (Kd.R_lt HO886.out)) (below_size HB.out))
       have n4_ := am (blk_below BK873.out hb)
       have n5_ := am (blk_below BK874.out hb)
       have n6_ := am (below_step HB.out hb)
       have z_BK891 := fun (h0_ : b 4 = true) (h1_ : b 6 = false) => (show w32.heap[gb891]? = some (.cells #[.int .i64 0, .slice none 0 0] 33 (0, 0)) from by exact (blk_below (g := gb891) (o := .cells #[.int .i64 0, .slice none 0 0] 33 (0, 0)) (by exact (Q_BK891 h0_ h1_)) hb))
       have z_BK892 := fun (h0_ : b 5 = true) (h1_ : b 7 = false) => (show w32.heap[gb892]? = some (.cells #[.int .i64 0, .slice none 0 0] 33 (0, 0)) from by exact (blk_below (g := gb892) (o := .cells #[.int .i64 0, .slice none 0 0] 33 (0, 0)) (by exact (Q_BK892 h0_ h1_)) hb))
       clear HO878
       clear HO882
       clear HO886
       clear BK873
       clear BK874
       clear HB
       have HO878 := n0_
       have HO882 := n1_
       have HO886 := n2_
       have HO890 := n3_
       have BK873 := n4_
       have BK874 := n5_
       have HB := n6_
       clear n0_ n1_ n2_ n3_ n4_ n5_ n6_
       try clear hb
       try clear ho0
       refine hK.out _ _ ⟨v885, v889, gb891, gb892, m1_, (.agg #[.int .i64 t887, v889]), m4_, m5_, (by rw [ha.out]; exact putSel_upk 3 hb_ rfl rfl rfl), HO878.out, HO882.out, BK873.out, BK874.out, HB.out, Q_NB892_891, Q_NB891_892, fun _ => (by exact Kd.R_mono HO886.out (fun _ hk => by grind)), fun _ => (by exact Kd.R_mono HO890.out (fun _ hk => by grind)), z_BK891, Q_GW891, Q_GE891, Q_NB873_891, Q_NB891_873, Q_NB874_891, Q_NB891_874, z_BK892, Q_GW892, Q_GE892, Q_NB873_892, Q_NB892_873, Q_NB874_892, Q_NB892_874, fun h0_ => absurd ((hoff 6 (by kernel_rfl)).symm.trans h0_) (by decide), fun h0_ => absurd ((hoff 7 (by kernel_rfl)).symm.trans h0_) (by decide), Q_X1_, fun _ => rfl, Q_X4_, Q_X5_⟩
      refine steps_cons ?_ ?_
      ·
       rintro b a w' ⟨v885, v889, gb891, gb892, m1_, m3_, m4_, m5_, ha, Q_HO878, Q_HO882, Q_BK873, Q_BK874, Q_HB, Q_NB892_891, Q_NB891_892, Q_HO886, Q_HO890, Q_BK891, Q_GW891, Q_GE891, Q_NB873_891, Q_NB891_873, Q_NB874_891, Q_NB891_874, Q_BK892, Q_GW892, Q_GE892, Q_NB873_892, Q_NB892_873, Q_NB874_892, Q_NB892_874, Q_BK891_e6, Q_BK892_e7, Q_X1_, Q_X3_, Q_X4_, Q_X5_⟩ hb_ hon hoff
       refine ⟨_, rfl, fun K hK => ?_⟩
       replace ha := am ha
       have HO878 := am Q_HO878
       have HO882 := am Q_HO882
       have BK873 := am Q_BK873
       have BK874 := am Q_BK874
       have HB := am Q_HB
       refine box_step ?hg (N := 5) ?hd (cs := #[.int .i64 0, .slice none 0 0]) (t := 33) ?hr ?_; (case hd => rfl); (case hg => rfl); (case hr => (go_simp; done))
       intro gb891 hg w30 hbox hb
       have n0_ := am (Kd.R_below HO878.out hb)
       have n1_ := am (Kd.R_below HO882.out hb)
       have n2_ := am (blk_below BK873.out hb)
       have n3_ := am (blk_below BK874.out hb)
       have n4_ := am (below_step HB.out hb)
       have n5_ := am hbox
       have n6_ := am (gel hg HB.out)
       have n7_ := am (gel hg HB.out)
       have n8_ := am (nel hg BK873.out)
       have n9_ := am (ner hg BK873.out)
       have n10_ := am (nel hg BK874.out)
       have n11_ := am (ner hg BK874.out)
       have z_NB892_891 := fun (h0_ : up b 4 4 = true) (h1_ : up b 4 5 = true) => (show gb892 ≠ gb891 from by rw [hg]; cases hb15_ : b 7 with | false => exact Nat.ne_of_lt (blk_lt (Q_BK892 (by simpa [up] using h1_) hb15_)) | true => exact Nat.ne_of_lt (blk_lt (Q_BK892_e7 hb15_)))
       have z_NB891_892 := fun (h0_ : up b 4 4 = true) (h1_ : up b 4 5 = true) => (show gb891 ≠ gb892 from by rw [hg]; cases hb15_ : b 7 with | false => exact Nat.ne_of_gt (blk_lt (Q_BK892 (by simpa [up] using h1_) hb15_)) | true => exact Nat.ne_of_gt (blk_lt (Q_BK892_e7 hb15_)))
       have z_HO886 := fun (h0_ : b 1 = true) => (show Kd.R (Kd.int .i64) 3 w30 w.heap.size (fun _ => True) v885 t884 from by exact (Kd.R_below (by exact (Q_HO886 h0_)) hb))
       have z_HO890 := fun (h0_ : b 3 = true) => (show Kd.R (Kd.int .i64) 3 w30 w.heap.size (fun _ => True) v889 t888 from by exact (Kd.R_below (by exact (Q_HO890 h0_)) hb))
       have z_BK892 := fun (h0_ : b 5 = true) (h1_ : b 7 = false) => (show w30.heap[gb892]? = some (.cells #[.int .i64 0, .slice none 0 0] 33 (0, 0)) from by exact (blk_below (g := gb892) (o := .cells #[.int .i64 0, .slice none 0 0] 33 (0, 0)) (by exact (Q_BK892 h0_ h1_)) hb))
       clear HO878
       clear HO882
       clear BK873
       clear BK874
       clear HB
       have HO878 := n0_
       have HO882 := n1_
       have BK873 := n2_
       have BK874 := n3_
       have HB := n4_
       have BK891 := n5_
       have GW891 := n6_
       have GE891 := n7_
       have NB873_891 := n8_
       have NB891_873 := n9_
       have NB874_891 := n10_
       have NB891_874 := n11_
       clear n0_ n1_ n2_ n3_ n4_ n5_ n6_ n7_ n8_ n9_ n10_ n11_
       clear hb hbox hg
       refine hK.out _ _ ⟨v885, v889, gb891, gb892, m1_, m3_, (.pointer (some ⟨gb891, 0, none⟩)), m5_, (by rw [ha.out]; exact putSel_upk 4 hb_ rfl rfl rfl), HO878.out, HO882.out, BK873.out, BK874.out, HB.out, @z_NB892_891, @z_NB891_892, z_HO886, z_HO890, fun _ _ => BK891.out, fun _ => GW891.out, fun _ => GE891.out, fun _ => NB873_891.out, fun _ => NB891_873.out, fun _ => NB874_891.out, fun _ => NB891_874.out, z_BK892, Q_GW892, Q_GE892, Q_NB873_892, Q_NB892_873, Q_NB874_892, Q_NB892_874, fun h0_ => absurd ((hoff 6 (by kernel_rfl)).symm.trans h0_) (by decide), fun h0_ => absurd ((hoff 7 (by kernel_rfl)).symm.trans h0_) (by decide), Q_X1_, Q_X3_, fun _ => rfl, Q_X5_⟩
      refine steps_cons ?_ ?_
      ·
       rintro b a w' ⟨v885, v889, gb891, gb892, m1_, m3_, m4_, m5_, ha, Q_HO878, Q_HO882, Q_BK873, Q_BK874, Q_HB, Q_NB892_891, Q_NB891_892, Q_HO886, Q_HO890, Q_BK891, Q_GW891, Q_GE891, Q_NB873_891, Q_NB891_873, Q_NB874_891, Q_NB891_874, Q_BK892, Q_GW892, Q_GE892, Q_NB873_892, Q_NB892_873, Q_NB874_892, Q_NB892_874, Q_BK891_e6, Q_BK892_e7, Q_X1_, Q_X3_, Q_X4_, Q_X5_⟩ hb_ hon hoff
       refine ⟨_, rfl, fun K hK => ?_⟩
       replace ha := am ha
       have HO878 := am Q_HO878
       have HO882 := am Q_HO882
       have BK873 := am Q_BK873
       have BK874 := am Q_BK874
       have HB := am Q_HB
       refine box_step ?hg (N := 6) ?hd (cs := #[.int .i64 0, .slice none 0 0]) (t := 33) ?hr ?_; (case hd => rfl); (case hg => rfl); (case hr => (go_simp; done))
       intro gb892 hg w30 hbox hb
       have n0_ := am (Kd.R_below HO878.out hb)
       have n1_ := am (Kd.R_below HO882.out hb)
       have n2_ := am (blk_below BK873.out hb)
       have n3_ := am (blk_below BK874.out hb)
       have n4_ := am (below_step HB.out hb)
       have n5_ := am hbox
       have n6_ := am (gel hg HB.out)
       have n7_ := am (gel hg HB.out)
       have n8_ := am (nel hg BK873.out)
       have n9_ := am (ner hg BK873.out)
       have n10_ := am (nel hg BK874.out)
       have n11_ := am (ner hg BK874.out)
       have z_NB892_891 := fun (h0_ : up b 5 4 = true) (h1_ : up b 5 5 = true) => (show gb892 ≠ gb891 from by rw [hg]; cases hb15_ : b 6 with | false => exact Nat.ne_of_gt (blk_lt (Q_BK891 (by simpa [up] using h0_) hb15_)) | true => exact Nat.ne_of_gt (blk_lt (Q_BK891_e6 hb15_)))
       have z_NB891_892 := fun (h0_ : up b 5 4 = true) (h1_ : up b 5 5 = true) => (show gb891 ≠ gb892 from by rw [hg]; cases hb15_ : b 6 with | false => exact Nat.ne_of_lt (blk_lt (Q_BK891 (by simpa [up] using h0_) hb15_)) | true => exact Nat.ne_of_lt (blk_lt (Q_BK891_e6 hb15_)))
       have z_HO886 := fun (h0_ : b 1 = true) => (show Kd.R (Kd.int .i64) 3 w30 w.heap.size (fun _ => True) v885 t884 from by exact (Kd.R_below (by exact (Q_HO886 h0_)) hb))
       have z_HO890 := fun (h0_ : b 3 = true) => (show Kd.R (Kd.int .i64) 3 w30 w.heap.size (fun _ => True) v889 t888 from by exact (Kd.R_below (by exact (Q_HO890 h0_)) hb))
       have z_BK891 := fun (h0_ : b 4 = true) (h1_ : b 6 = false) => (show w30.heap[gb891]? = some (.cells #[.int .i64 0, .slice none 0 0] 33 (0, 0)) from by exact (blk_below (g := gb891) (o := .cells #[.int .i64 0, .slice none 0 0] 33 (0, 0)) (by exact (Q_BK891 h0_ h1_)) hb))
       clear HO878
       clear HO882
       clear BK873
       clear BK874
       clear HB
       have HO878 := n0_
       have HO882 := n1_
       have BK873 := n2_
       have BK874 := n3_
       have HB := n4_
       have BK892 := n5_
       have GW892 := n6_
       have GE892 := n7_
       have NB873_892 := n8_
       have NB892_873 := n9_
       have NB874_892 := n10_
       have NB892_874 := n11_
       clear n0_ n1_ n2_ n3_ n4_ n5_ n6_ n7_ n8_ n9_ n10_ n11_
       clear hb hbox hg
       refine hK.out _ _ ⟨v885, v889, gb891, gb892, m1_, m3_, m4_, (.pointer (some ⟨gb892, 0, none⟩)), (by rw [ha.out]; exact putSel_upk 5 hb_ rfl rfl rfl), HO878.out, HO882.out, BK873.out, BK874.out, HB.out, @z_NB892_891, @z_NB891_892, z_HO886, z_HO890, z_BK891, Q_GW891, Q_GE891, Q_NB873_891, Q_NB891_873, Q_NB874_891, Q_NB891_874, fun _ _ => BK892.out, fun _ => GW892.out, fun _ => GE892.out, fun _ => NB873_892.out, fun _ => NB892_873.out, fun _ => NB874_892.out, fun _ => NB892_874.out, fun h0_ => absurd ((hoff 6 (by kernel_rfl)).symm.trans h0_) (by decide), fun h0_ => absurd ((hoff 7 (by kernel_rfl)).symm.trans h0_) (by decide), Q_X1_, Q_X3_, Q_X4_, fun _ => rfl⟩
      refine steps_cons ?_ ?_
      ·
       rintro b a w' ⟨v885, v889, gb891, gb892, m1_, m3_, m4_, m5_, ha, Q_HO878, Q_HO882, Q_BK873, Q_BK874, Q_HB, Q_NB892_891, Q_NB891_892, Q_HO886, Q_HO890, Q_BK891, Q_GW891, Q_GE891, Q_NB873_891, Q_NB891_873, Q_NB874_891, Q_NB891_874, Q_BK892, Q_GW892, Q_GE892, Q_NB873_892, Q_NB892_873, Q_NB874_892, Q_NB892_874, Q_BK891_e6, Q_BK892_e7, Q_X1_, Q_X3_, Q_X4_, Q_X5_⟩ hb_ hon hoff
       refine ⟨_, rfl, fun K hK => ?_⟩
       have e5 : a.tmps[5]? = some (m4_) := by rw [ha]; exact putSel_on (e := (4, 5, m4_)) 4 rfl rfl (hon 4 (by kernel_rfl)) rfl
       rw [Q_X4_ (hon 4 (by kernel_rfl))] at e5
       have e16 : a.tmps[16]? = some (m1_) := by rw [ha]; exact putSel_on (e := (1, 16, m1_)) 1 rfl rfl (hon 1 (by kernel_rfl)) rfl
       rw [Q_X1_ (hon 1 (by kernel_rfl))] at e16
       replace ha := am ha
       have HO878 := am Q_HO878
       have HO882 := am Q_HO882
       have BK873 := am Q_BK873
       have BK874 := am Q_BK874
       have HB := am Q_HB
       have NB892_891 := am (Q_NB892_891 (hon 4 (by kernel_rfl)) (hon 5 (by kernel_rfl)))
       have NB891_892 := am (Q_NB891_892 (hon 4 (by kernel_rfl)) (hon 5 (by kernel_rfl)))
       have HO886 := am (Q_HO886 (hon 1 (by kernel_rfl)))
       have HO890 := am (Q_HO890 (hon 3 (by kernel_rfl)))
       have BK891 := am (Q_BK891 (hon 4 (by kernel_rfl)) hb_)
       have GW891 := am (Q_GW891 (hon 4 (by kernel_rfl)))
       have GE891 := am (Q_GE891 (hon 4 (by kernel_rfl)))
       have NB873_891 := am (Q_NB873_891 (hon 4 (by kernel_rfl)))
       have NB891_873 := am (Q_NB891_873 (hon 4 (by kernel_rfl)))
       have NB874_891 := am (Q_NB874_891 (hon 4 (by kernel_rfl)))
       have NB891_874 := am (Q_NB891_874 (hon 4 (by kernel_rfl)))
       have BK892 := am (Q_BK892 (hon 5 (by kernel_rfl)) (hoff 7 (by kernel_rfl)))
       have GW892 := am (Q_GW892 (hon 5 (by kernel_rfl)))
       have GE892 := am (Q_GE892 (hon 5 (by kernel_rfl)))
       have NB873_892 := am (Q_NB873_892 (hon 5 (by kernel_rfl)))
       have NB892_873 := am (Q_NB892_873 (hon 5 (by kernel_rfl)))
       have NB874_892 := am (Q_NB874_892 (hon 5 (by kernel_rfl)))
       have NB892_874 := am (Q_NB892_874 (hon 5 (by kernel_rfl)))
       obtain ⟨Ao36, co36, eo36⟩ := Kd.R_slice HO886.out
       (subst eo36)
       have hs35 : w'.cell? ⟨gb891, 0, none⟩ = some (.int .i64 0) := (blk_cell BK891.out 0).trans rfl
       have hfs35 := blk_frozen BK891.out 0
       have hns35_0 := NB873_891.out
       have hns35_1 := NB874_891.out
       have hns35_3 := NB892_891.out
       have hms35_0 := NB891_873.out
       have hms35_1 := NB891_874.out
       have hms35_3 := NB891_892.out
       have hs37 : w'.cell? ⟨gb891, 1, none⟩ = some (.slice none 0 0) := (blk_cell BK891.out 1).trans rfl
       have hfs37 := blk_frozen BK891.out 1
       have hns37_0 := NB873_891.out
       have hns37_1 := NB874_891.out
       have hns37_3 := NB892_891.out
       have hms37_0 := NB891_873.out
       have hms37_1 := NB891_874.out
       have hms37_3 := NB891_892.out
       refine skip_ (w1 := ?_) (by rfl) rfl ?_ ?_
       rotate_left
       ·
        go_simp
        rfl
       refine hK.out _ _ ⟨.slice Ao36 t884.length co36, v889, gb891, gb892, m1_, m3_, m4_, m5_, (by rw [ha.out]; exact putSel_none (v := undef) rfl), (by exact Kd.R_mono (Kd.R_far (p := ⟨gb891, 1, none⟩) (Kd.R_far (p := ⟨gb891, 0, none⟩) (Kd.R_types HO878.out BK891.out (by decide)) (fun _ hk => by exact hk.2) (.int .i64 t883)) (fun _ hk => by exact hk.2) (.slice Ao36 t884.length co36)) (fun _ hk => by exact hk.1)), (by exact Kd.R_mono (Kd.R_far (p := ⟨gb891, 1, none⟩) (Kd.R_far (p := ⟨gb891, 0, none⟩) (Kd.R_types HO882.out BK891.out (by decide)) (fun _ hk => by exact hk.2) (.int .i64 t883)) (fun _ hk => by exact hk.2) (.slice Ao36 t884.length co36)) (fun _ hk => by exact hk.1)), (by refine blk_far ?_ NB873_891.out _; refine blk_far ?_ NB873_891.out _; exact BK873.out), (by refine blk_far ?_ NB874_891.out _; refine blk_far ?_ NB874_891.out _; exact BK874.out), (by repeat ((with_reducible first | exact HB.out | refine below_set ?_ GE891.out))), fun _ _ => NB892_891.out, fun _ _ => NB891_892.out, fun _ => (by exact Kd.R_mono (Kd.R_far (p := ⟨gb891, 1, none⟩) (Kd.R_far (p := ⟨gb891, 0, none⟩) (Kd.R_types HO886.out BK891.out (by decide)) (fun _ hk => by exact hk.2) (.int .i64 t883)) (fun _ hk => by exact hk.2) (.slice Ao36 t884.length co36)) (fun _ hk => by exact hk.1)), fun _ => (by exact Kd.R_mono (Kd.R_far (p := ⟨gb891, 1, none⟩) (Kd.R_far (p := ⟨gb891, 0, none⟩) (Kd.R_types HO890.out BK891.out (by decide)) (fun _ hk => by exact hk.2) (.int .i64 t883)) (fun _ hk => by exact hk.2) (.slice Ao36 t884.length co36)) (fun _ hk => by exact hk.1)), fun _ h1_ => absurd ((up_self b 6).symm.trans h1_) (by decide), fun _ => GW891.out, fun _ => GE891.out, fun _ => NB873_891.out, fun _ => NB891_873.out, fun _ => NB874_891.out, fun _ => NB891_874.out, fun _ _ => (by refine blk_far ?_ NB892_891.out _; refine blk_far ?_ NB892_891.out _; exact BK892.out), fun _ => GW892.out, fun _ => GE892.out, fun _ => NB873_892.out, fun _ => NB892_873.out, fun _ => NB874_892.out, fun _ => NB892_874.out, fun _ => (by refine blk_put (cs := #[.int .i64 t883, .slice none 0 0]) ?_ 1 _ rfl; refine blk_put (cs := #[.int .i64 0, .slice none 0 0]) ?_ 0 _ rfl; exact BK891.out), fun h0_ => absurd ((hoff 7 (by kernel_rfl)).symm.trans h0_) (by decide), Q_X1_, Q_X3_, Q_X4_, Q_X5_⟩
      refine steps_cons ?_ ?_
      ·
       rintro b a w' ⟨v885, v889, gb891, gb892, m1_, m3_, m4_, m5_, ha, Q_HO878, Q_HO882, Q_BK873, Q_BK874, Q_HB, Q_NB892_891, Q_NB891_892, Q_HO886, Q_HO890, Q_BK891, Q_GW891, Q_GE891, Q_NB873_891, Q_NB891_873, Q_NB874_891, Q_NB891_874, Q_BK892, Q_GW892, Q_GE892, Q_NB873_892, Q_NB892_873, Q_NB874_892, Q_NB892_874, Q_BK891_e6, Q_BK892_e7, Q_X1_, Q_X3_, Q_X4_, Q_X5_⟩ hb_ hon hoff
       refine ⟨_, rfl, fun K hK => ?_⟩
       have e6 : a.tmps[6]? = some (m5_) := by rw [ha]; exact putSel_on (e := (5, 6, m5_)) 5 rfl rfl (hon 5 (by kernel_rfl)) rfl
       rw [Q_X5_ (hon 5 (by kernel_rfl))] at e6
       have e18 : a.tmps[18]? = some (m3_) := by rw [ha]; exact putSel_on (e := (3, 18, m3_)) 3 rfl rfl (hon 3 (by kernel_rfl)) rfl
       rw [Q_X3_ (hon 3 (by kernel_rfl))] at e18
       replace ha := am ha
       have HO878 := am Q_HO878
       have HO882 := am Q_HO882
       have BK873 := am Q_BK873
       have BK874 := am Q_BK874
       have HB := am Q_HB
       have NB892_891 := am (Q_NB892_891 (hon 4 (by kernel_rfl)) (hon 5 (by kernel_rfl)))
       have NB891_892 := am (Q_NB891_892 (hon 4 (by kernel_rfl)) (hon 5 (by kernel_rfl)))
       have HO886 := am (Q_HO886 (hon 1 (by kernel_rfl)))
       have HO890 := am (Q_HO890 (hon 3 (by kernel_rfl)))
       have GW891 := am (Q_GW891 (hon 4 (by kernel_rfl)))
       have GE891 := am (Q_GE891 (hon 4 (by kernel_rfl)))
       have NB873_891 := am (Q_NB873_891 (hon 4 (by kernel_rfl)))
       have NB891_873 := am (Q_NB891_873 (hon 4 (by kernel_rfl)))
       have NB874_891 := am (Q_NB874_891 (hon 4 (by kernel_rfl)))
       have NB891_874 := am (Q_NB891_874 (hon 4 (by kernel_rfl)))
       have BK892 := am (Q_BK892 (hon 5 (by kernel_rfl)) hb_)
       have GW892 := am (Q_GW892 (hon 5 (by kernel_rfl)))
       have GE892 := am (Q_GE892 (hon 5 (by kernel_rfl)))
       have NB873_892 := am (Q_NB873_892 (hon 5 (by kernel_rfl)))
       have NB892_873 := am (Q_NB892_873 (hon 5 (by kernel_rfl)))
       have NB874_892 := am (Q_NB874_892 (hon 5 (by kernel_rfl)))
       have NB892_874 := am (Q_NB892_874 (hon 5 (by kernel_rfl)))
       have BK891 := am (Q_BK891_e6 (hon 6 (by kernel_rfl)))
       obtain ⟨Ao39, co39, eo39⟩ := Kd.R_slice HO890.out
       (subst eo39)
       have hs38 : w'.cell? ⟨gb892, 0, none⟩ = some (.int .i64 0) := (blk_cell BK892.out 0).trans rfl
       have hfs38 := blk_frozen BK892.out 0
       have hns38_0 := NB873_892.out
       have hns38_1 := NB874_892.out
       have hns38_2 := NB891_892.out
       have hms38_0 := NB892_873.out
       have hms38_1 := NB892_874.out
       have hms38_2 := NB892_891.out
       have hs40 : w'.cell? ⟨gb892, 1, none⟩ = some (.slice none 0 0) := (blk_cell BK892.out 1).trans rfl
       have hfs40 := blk_frozen BK892.out 1
       have hns40_0 := NB873_892.out
       have hns40_1 := NB874_892.out
       have hns40_2 := NB891_892.out
       have hms40_0 := NB892_873.out
       have hms40_1 := NB892_874.out
       have hms40_2 := NB892_891.out
       refine skip_ (w1 := ?_) (by rfl) rfl ?_ ?_
       rotate_left
       ·
        go_simp
        rfl
       refine hK.out _ _ ⟨v885, .slice Ao39 t888.length co39, gb891, gb892, m1_, m3_, m4_, m5_, (by rw [ha.out]; exact putSel_none (v := undef) rfl), (by exact Kd.R_mono (Kd.R_far (p := ⟨gb892, 1, none⟩) (Kd.R_far (p := ⟨gb892, 0, none⟩) (Kd.R_types HO878.out BK892.out (by decide)) (fun _ hk => by exact hk.2) (.int .i64 t887)) (fun _ hk => by exact hk.2) (.slice Ao39 t888.length co39)) (fun _ hk => by exact hk.1)), (by exact Kd.R_mono (Kd.R_far (p := ⟨gb892, 1, none⟩) (Kd.R_far (p := ⟨gb892, 0, none⟩) (Kd.R_types HO882.out BK892.out (by decide)) (fun _ hk => by exact hk.2) (.int .i64 t887)) (fun _ hk => by exact hk.2) (.slice Ao39 t888.length co39)) (fun _ hk => by exact hk.1)), (by refine blk_far ?_ NB873_892.out _; refine blk_far ?_ NB873_892.out _; exact BK873.out), (by refine blk_far ?_ NB874_892.out _; refine blk_far ?_ NB874_892.out _; exact BK874.out), (by repeat ((with_reducible first | exact HB.out | refine below_set ?_ GE892.out))), fun _ _ => NB892_891.out, fun _ _ => NB891_892.out, fun _ => (by exact Kd.R_mono (Kd.R_far (p := ⟨gb892, 1, none⟩) (Kd.R_far (p := ⟨gb892, 0, none⟩) (Kd.R_types HO886.out BK892.out (by decide)) (fun _ hk => by exact hk.2) (.int .i64 t887)) (fun _ hk => by exact hk.2) (.slice Ao39 t888.length co39)) (fun _ hk => by exact hk.1)), fun _ => (by exact Kd.R_mono (Kd.R_far (p := ⟨gb892, 1, none⟩) (Kd.R_far (p := ⟨gb892, 0, none⟩) (Kd.R_types HO890.out BK892.out (by decide)) (fun _ hk => by exact hk.2) (.int .i64 t887)) (fun _ hk => by exact hk.2) (.slice Ao39 t888.length co39)) (fun _ hk => by exact hk.1)), fun _ h1_ => absurd ((hon 6 (by kernel_rfl)).symm.trans h1_) (by decide), fun _ => GW891.out, fun _ => GE891.out, fun _ => NB873_891.out, fun _ => NB891_873.out, fun _ => NB874_891.out, fun _ => NB891_874.out, fun _ h1_ => absurd ((up_self b 7).symm.trans h1_) (by decide), fun _ => GW892.out, fun _ => GE892.out, fun _ => NB873_892.out, fun _ => NB892_873.out, fun _ => NB874_892.out, fun _ => NB892_874.out, fun _ => (by refine blk_far ?_ NB891_892.out _; refine blk_far ?_ NB891_892.out _; exact BK891.out), fun _ => (by refine blk_put (cs := #[.int .i64 t887, .slice none 0 0]) ?_ 1 _ rfl; refine blk_put (cs := #[.int .i64 0, .slice none 0 0]) ?_ 0 _ rfl; exact BK892.out), Q_X1_, Q_X3_, Q_X4_, Q_X5_⟩
      exact steps_nil
     rintro b a w40 hall ⟨v885, v889, gb891, gb892, m1_, m3_, m4_, m5_, ha, Q_HO878, Q_HO882, Q_BK873, Q_BK874, Q_HB, Q_NB892_891, Q_NB891_892, Q_HO886, Q_HO890, Q_BK891, Q_GW891, Q_GE891, Q_NB873_891, Q_NB891_873, Q_NB874_891, Q_NB891_874, Q_BK892, Q_GW892, Q_GE892, Q_NB873_892, Q_NB892_873, Q_NB874_892, Q_NB892_874, Q_BK891_e6, Q_BK892_e7, Q_X1_, Q_X3_, Q_X4_, Q_X5_⟩
     clear BK873 BK874 HB HO878 HO882
     have hb0_ := hall 0 (by kernel_rfl)
     have hb1_ := hall 1 (by kernel_rfl)
     have hb2_ := hall 2 (by kernel_rfl)
     have hb3_ := hall 3 (by kernel_rfl)
     have hb4_ := hall 4 (by kernel_rfl)
     have hb5_ := hall 5 (by kernel_rfl)
     have hb6_ := hall 6 (by kernel_rfl)
     have hb7_ := hall 7 (by kernel_rfl)
     subst ha
     obtain rfl := Q_X1_ hb1_
     obtain rfl := Q_X3_ hb3_
     obtain rfl := Q_X4_ hb4_
     obtain rfl := Q_X5_ hb5_
     simp only [putSel, hb0_, hb1_, hb2_, hb3_, hb4_, hb5_, hb6_, hb7_, if_true, Act.put, sI_, s0_, s1_]
     have HO878 := am Q_HO878
     clear Q_HO878
     have HO882 := am Q_HO882
     clear Q_HO882
     have BK873 := am Q_BK873
     clear Q_BK873
     have BK874 := am Q_BK874
     clear Q_BK874
     have HB := am Q_HB
     clear Q_HB
     have NB892_891 := am (Q_NB892_891 hb4_ hb5_)
     clear Q_NB892_891
     have NB891_892 := am (Q_NB891_892 hb4_ hb5_)
     clear Q_NB891_892
     have HO886 := am (Q_HO886 hb1_)
     clear Q_HO886
     have HO890 := am (Q_HO890 hb3_)
     clear Q_HO890
     clear Q_BK891
     have GW891 := am (Q_GW891 hb4_)
     clear Q_GW891
     have GE891 := am (Q_GE891 hb4_)
     clear Q_GE891
     have NB873_891 := am (Q_NB873_891 hb4_)
     clear Q_NB873_891
     have NB891_873 := am (Q_NB891_873 hb4_)
     clear Q_NB891_873
     have NB874_891 := am (Q_NB874_891 hb4_)
     clear Q_NB874_891
     have NB891_874 := am (Q_NB891_874 hb4_)
     clear Q_NB891_874
     clear Q_BK892
     have GW892 := am (Q_GW892 hb5_)
     clear Q_GW892
     have GE892 := am (Q_GE892 hb5_)
     clear Q_GE892
     have NB873_892 := am (Q_NB873_892 hb5_)
     clear Q_NB873_892
     have NB892_873 := am (Q_NB892_873 hb5_)
     clear Q_NB892_873
     have NB874_892 := am (Q_NB874_892 hb5_)
     clear Q_NB874_892
     have NB892_874 := am (Q_NB892_874 hb5_)
     clear Q_NB892_874
     have BK891 := am (Q_BK891_e6 hb6_)
     clear Q_BK891_e6
     have BK892 := am (Q_BK892_e7 hb7_)
     clear Q_BK892_e7
     clear hall hb0_ hb1_ hb2_ hb3_ hb4_ hb5_ hb6_ hb7_
     have hnb41 := NB873_874.out
     have hnc41 := NB874_873.out
     have hnb42 := NB873_891.out
     have hnc42 := NB891_873.out
     have hnb43 := NB873_892.out
     have hnc43 := NB892_873.out
     have hcz44_0 : w40.cell? ⟨gb873, 0, none⟩ = some (.bool t875) := (blk_cell BK873.out 0).trans rfl
     have hcz44_1 : w40.cell? ⟨gb873, 1, none⟩ = some (.slice Ao23 t876.length co23) := (blk_cell BK873.out 1).trans rfl
     have hfz44_0 := blk_frozen BK873.out 0
     have hfz44_1 := blk_frozen BK873.out 1
     try go_wp2_with (first | ((with_reducible refine gate_callee (f := 28) rfl ?_); refine goesL_ (some 21) rfl rfl Try.func28 (by kernel_rfl) rfl #[.agg #[.bool t875, .slice Ao23 t876.length co23]] rfl (by (try simp only [List.map_toArray, List.map_cons, List.map_nil]); rfl) ?_; (with_reducible refine (whole_Small.calls k t875 _ _ t876 t893 t894 _ ?side1 ?side2 A7.out).mono ?_); (case side1 => exact (Kd.R_reads' HO878.out).2.2); (case side2 => exact (Kd.R_reads' HO878.out).2.1); rintro e w45 ⟨rfl, hb⟩; refine ⟨_, rfl, ?_⟩; replace HO878 := am (Kd.R_below HO878.out hb); replace HO882 := am (Kd.R_below HO882.out hb); replace HO886 := am (Kd.R_below HO886.out hb); replace HO890 := am (Kd.R_below HO890.out hb); replace BK873 := am (blk_below BK873.out hb); replace BK874 := am (blk_below BK874.out hb); replace BK891 := am (blk_below BK891.out hb); replace BK892 := am (blk_below BK892.out hb); replace HB := am (below_step HB.out hb); (try clear hb); have hnb46 := NB891_874.out; have hnc46 := NB874_891.out; have hnb47 := NB891_892.out; have hnc47 := NB892_891.out; have hcz48_0 : w45.cell? ⟨gb891, 0, none⟩ = some (.int .i64 t883) := (blk_cell BK891.out 0).trans rfl; have hcz48_1 : w45.cell? ⟨gb891, 1, none⟩ = some (v885) := (blk_cell BK891.out 1).trans rfl; have hfz48_0 := blk_frozen BK891.out 0; have hfz48_1 := blk_frozen BK891.out 1; obtain ⟨Ao49, co49, eo49⟩ := Kd.R_slice HO886.out; subst eo49) | ((with_reducible refine gate_callee (f := 29) rfl ?_); refine goesL_ (some 26) rfl rfl Try.func29 (by kernel_rfl) rfl #[.agg #[.int .i64 t883, .slice Ao49 t884.length co49]] rfl (by (try simp only [List.map_toArray, List.map_cons, List.map_nil]); rfl) ?_; (with_reducible refine (zelligeref04_Small.calls k t883 _ _ t884 t895 t896 _ ?side1 ?side2 A8.out).mono ?_); (case side1 => exact (Kd.R_reads' HO886.out).2.2); (case side2 => exact (Kd.R_reads' HO886.out).2.1); rintro e w50 ⟨rfl, hb⟩; refine ⟨_, rfl, ?_⟩; replace HO878 := am (Kd.R_below HO878.out hb); replace HO882 := am (Kd.R_below HO882.out hb); replace HO886 := am (Kd.R_below HO886.out hb); replace HO890 := am (Kd.R_below HO890.out hb); replace BK873 := am (blk_below BK873.out hb); replace BK874 := am (blk_below BK874.out hb); replace BK891 := am (blk_below BK891.out hb); replace BK892 := am (blk_below BK892.out hb); replace HB := am (below_step HB.out hb); (try clear hb)))
     replace HO878 := am (Kd.R_drew HO878.out)
     replace HO882 := am (Kd.R_drew HO882.out)
     replace HO886 := am (Kd.R_drew HO886.out)
     replace HO890 := am (Kd.R_drew HO890.out)
     replace BK873 := am (blk_drew BK873.out)
     replace BK874 := am (blk_drew BK874.out)
     replace BK891 := am (blk_drew BK891.out)
     replace BK892 := am (blk_drew BK892.out)
     replace HB := am (below_drew1 HB.out)
     refine start_ (n := 28) (S := fun w' => w'.cell? ⟨gb873, 0, none⟩ = some (.bool t875) ∧ w'.cell? ⟨gb873, 1, none⟩ = some (.slice Ao23 t876.length co23) ∧ w'.cell? ⟨gb874, 0, none⟩ = some (.bool t879) ∧ w'.cell? ⟨gb874, 1, none⟩ = some (.slice Ao26 t880.length co26) ∧ w'.cell? ⟨gb891, 0, none⟩ = some (.int .i64 t883) ∧ w'.cell? ⟨gb891, 1, none⟩ = some (.slice Ao49 t884.length co49) ∧ w'.cell? ⟨gb892, 0, none⟩ = some (.int .i64 t887) ∧ w'.cell? ⟨gb892, 1, none⟩ = some (v889)) (ds := []) #[false, false, false, false, false, false, false, false, false, false, false, false, false, false, false, false, false, false, false, false, false, false, false, false, false, false, false, false] (by kernel_rfl) rfl rfl ⟨(blk_cell BK873.out 0).trans rfl, (blk_cell BK873.out 1).trans rfl, (blk_cell BK874.out 0).trans rfl, (blk_cell BK874.out 1).trans rfl, (blk_cell BK891.out 0).trans rfl, (blk_cell BK891.out 1).trans rfl, (blk_cell BK892.out 0).trans rfl, (blk_cell BK892.out 1).trans rfl⟩ (fun hHeld => ?_); refine with_tabW zelligelaw04_WholeOrders.tab5 zelligelaw04_WholeOrders.bits5 (fun HT_ HW_ => ?_)
     generalize w50.drew = w51 at HO878 HO882 HO886 HO890 BK873 BK874 BK891 BK892 HB hHeld ⊢
     refine take_ (i := 0) (N := some 29) (v := ?_) (a' := ?_) #[true, false, false, false, false, false, false, false, false, false, false, false, false, false, false, false, false, false, false, false, false, false, false, false, false, false, false, false] rfl rfl (take_ofW HT_.out HW_.out (by kernel_rfl)) (fun _ _ _ h => h) (Or.inl ⟨by rfl, ?_⟩) hHeld ?_ ?_
     rotate_left
     ·
      rintro w' ⟨s0, s1, s2, s3, s4, s5, s6, s7⟩
      go_simp
      with_reducible rfl
     rotate_left
     ·
      simp only [Act.put, sI_, s0_, s1_, i64_w, i32_w]
      rfl
     refine take_ (i := 1) (N := some 30) (v := ?_) (a' := ?_) #[true, true, false, false, false, false, false, false, false, false, false, false, false, false, false, false, false, false, false, false, false, false, false, false, false, false, false, false] rfl rfl (take_ofW HT_.out HW_.out (by kernel_rfl)) (fun _ _ _ h => h) (Or.inl ⟨by rfl, ?_⟩) hHeld ?_ ?_
     rotate_left
     ·
      rintro w' ⟨s0, s1, s2, s3, s4, s5, s6, s7⟩
      go_simp
      with_reducible rfl
     rotate_left
     ·
      simp only [Act.put, sI_, s0_, s1_, i64_w, i32_w]
      rfl
     refine take_ (i := 3) (N := some 32) (v := ?_) (a' := ?_) #[true, true, false, true, false, false, false, false, false, false, false, false, false, false, false, false, false, false, false, false, false, false, false, false, false, false, false, false] rfl rfl (take_ofW HT_.out HW_.out (by kernel_rfl)) (fun _ _ _ h => h) (Or.inl ⟨by rfl, ?_⟩) hHeld ?_ ?_
     rotate_left
     ·
      rintro w' ⟨s0, s1, s2, s3, s4, s5, s6, s7⟩
      go_simp
      with_reducible rfl
     rotate_left
     ·
      simp only [Act.put, sI_, s0_, s1_, i64_w, i32_w]
      rfl
     refine take_ (i := 4) (N := some 33) (v := ?_) (a' := ?_) #[true, true, false, true, true, false, false, false, false, false, false, false, false, false, false, false, false, false, false, false, false, false, false, false, false, false, false, false] rfl rfl (take_ofW HT_.out HW_.out (by kernel_rfl)) (fun _ _ _ h => h) (Or.inl ⟨by rfl, ?_⟩) hHeld ?_ ?_
     rotate_left
     ·
      rintro w' ⟨s0, s1, s2, s3, s4, s5, s6, s7⟩
      go_simp
      with_reducible rfl
     rotate_left
     ·
      simp only [Act.put, sI_, s0_, s1_, i64_w, i32_w]
      rfl
     refine one_ (i := 2) (N := some 31) #[true, true, true, true, true, false, false, false, false, false, false, false, false, false, false, false, false, false, false, false, false, false, false, false, false, false, false, false] rfl rfl (one_of HT_.out (by kernel_rfl)) (by decide) (fun K hK => ?_)
     refine goes_ Try.func30 (by kernel_rfl) rfl #[.agg #[.bool t875, .slice Ao23 t876.length co23], .agg #[.bool t879, .slice Ao26 t880.length co26]] (by rfl) rfl rfl (by (try simp only [List.map_toArray, List.map_cons, List.map_nil]); rfl) ?_
     with_reducible refine (whole_Cmp.calls k t875 _ _ t876 t879 _ _ t880 t897 _ ?side1 ?side2 ?side3 ?side4 A9.out).mono ?_
     (case side1 => exact (Kd.R_reads' HO878.out).2.2)
     (case side2 => exact (Kd.R_reads' HO878.out).2.1)
     (case side3 => exact (Kd.R_reads' HO882.out).2.2)
     (case side4 => exact (Kd.R_reads' HO882.out).2.1)
     rintro e w52 ⟨rfl, hb⟩
     refine ⟨_, rfl, ?_⟩
     replace HO878 := am (Kd.R_below HO878.out hb)
     replace HO882 := am (Kd.R_below HO882.out hb)
     replace HO886 := am (Kd.R_below HO886.out hb)
     replace HO890 := am (Kd.R_below HO890.out hb)
     replace BK873 := am (blk_below BK873.out hb)
     replace BK874 := am (blk_below BK874.out hb)
     replace BK891 := am (blk_below BK891.out hb)
     replace BK892 := am (blk_below BK892.out hb)
     replace HB := am (below_step HB.out hb)
     (try clear hb)
     obtain ⟨Ao53, co53, eo53⟩ := Kd.R_slice HO890.out
     (subst eo53)
     refine hK.out _ _ ⟨(blk_cell BK873.out 0).trans rfl, (blk_cell BK873.out 1).trans rfl, (blk_cell BK874.out 0).trans rfl, (blk_cell BK874.out 1).trans rfl, (blk_cell BK891.out 0).trans rfl, (blk_cell BK891.out 1).trans rfl, (blk_cell BK892.out 0).trans rfl, (blk_cell BK892.out 1).trans rfl⟩ (fun hHeld => ?_)
     clear hK K
     refine norm_ (a' := ?_) ?_ ?_
     rotate_left
     ·
      show Act.put _ (some 31) _ = _
      simp only [Act.put, sI_, s0_, s1_, i64_w, i32_w]
      rfl
     refine one_ (i := 5) (N := some 34) #[true, true, true, true, true, true, false, false, false, false, false, false, false, false, false, false, false, false, false, false, false, false, false, false, false, false, false, false] rfl rfl (one_of HT_.out (by kernel_rfl)) (by decide) (fun K hK => ?_)
     refine goes_ Try.func31 (by kernel_rfl) rfl #[.agg #[.int .i64 t883, .slice Ao49 t884.length co49], .agg #[.int .i64 t887, .slice Ao53 t888.length co53]] (by rfl) rfl rfl (by (try simp only [List.map_toArray, List.map_cons, List.map_nil]); rfl) ?_
     with_reducible refine (zelligeref04_Cmp.calls k t883 _ _ t884 t887 _ _ t888 t898 _ ?side1 ?side2 ?side3 ?side4 A10.out).mono ?_
     (case side1 => exact (Kd.R_reads' HO886.out).2.2)
     (case side2 => exact (Kd.R_reads' HO886.out).2.1)
     (case side3 => exact (Kd.R_reads' HO890.out).2.2)
     (case side4 => exact (Kd.R_reads' HO890.out).2.1)
     rintro e w54 ⟨rfl, hb⟩
     refine ⟨_, rfl, ?_⟩
     replace HO878 := am (Kd.R_below HO878.out hb)
     replace HO882 := am (Kd.R_below HO882.out hb)
     replace HO886 := am (Kd.R_below HO886.out hb)
     replace HO890 := am (Kd.R_below HO890.out hb)
     replace BK873 := am (blk_below BK873.out hb)
     replace BK874 := am (blk_below BK874.out hb)
     replace BK891 := am (blk_below BK891.out hb)
     replace BK892 := am (blk_below BK892.out hb)
     replace HB := am (below_step HB.out hb)
     (try clear hb)
     refine hK.out _ _ ⟨(blk_cell BK873.out 0).trans rfl, (blk_cell BK873.out 1).trans rfl, (blk_cell BK874.out 0).trans rfl, (blk_cell BK874.out 1).trans rfl, (blk_cell BK891.out 0).trans rfl, (blk_cell BK891.out 1).trans rfl, (blk_cell BK892.out 0).trans rfl, (blk_cell BK892.out 1).trans rfl⟩ (fun hHeld => ?_)
     clear hK K
     refine norm_ (a' := ?_) ?_ ?_
     rotate_left
     ·
      show Act.put _ (some 34) _ = _
      simp only [Act.put, sI_, s0_, s1_, i64_w, i32_w]
      rfl
     refine pure_ (i := 6) (N := some 35) (v := ?_) (a' := ?_) #[true, true, true, true, true, true, true, false, false, false, false, false, false, false, false, false, false, false, false, false, false, false, false, false, false, false, false, false] rfl rfl (any_of HT_.out (by kernel_rfl)) (fun _ _ _ h => h) (Or.inl ⟨by rfl, ?_⟩) ?_ ?_
     rotate_left
     ·
      intro w'
      go_simp
      with_reducible rfl
     rotate_left
     ·
      simp only [Act.put, sI_, s0_, s1_, i64_w, i32_w]
      rfl
     refine pure_ (i := 7) (N := some 36) (v := ?_) (a' := ?_) #[true, true, true, true, true, true, true, true, false, false, false, false, false, false, false, false, false, false, false, false, false, false, false, false, false, false, false, false] rfl rfl (any_of HT_.out (by kernel_rfl)) (fun _ _ _ h => h) (Or.inl ⟨by rfl, ?_⟩) ?_ ?_
     rotate_left
     ·
      intro w'
      go_simp
      with_reducible rfl
     rotate_left
     ·
      simp only [Act.put, sI_, s0_, s1_, i64_w, i32_w]
      rfl
     refine pure_ (i := 10) (N := some 39) (v := ?_) (a' := ?_) #[true, true, true, true, true, true, true, true, false, false, true, false, false, false, false, false, false, false, false, false, false, false, false, false, false, false, false, false] rfl rfl (any_of HT_.out (by kernel_rfl)) (fun _ _ _ h => h) (Or.inl ⟨by rfl, ?_⟩) ?_ ?_
     rotate_left
     ·
      intro w'
      go_simp
      with_reducible rfl
     rotate_left
     ·
      simp only [Act.put, sI_, s0_, s1_, i64_w, i32_w]
      rfl
     refine take_ (i := 8) (N := some 37) (v := ?_) (a' := ?_) #[true, true, true, true, true, true, true, true, true, false, true, false, false, false, false, false, false, false, false, false, false, false, false, false, false, false, false, false] rfl rfl (take_ofW HT_.out HW_.out (by kernel_rfl)) (fun _ _ _ h => h) (Or.inl ⟨by rfl, ?_⟩) hHeld ?_ ?_
     rotate_left
     ·
      rintro w' ⟨s0, s1, s2, s3, s4, s5, s6, s7⟩
      go_simp
      with_reducible rfl
     rotate_left
     ·
      simp only [Act.put, sI_, s0_, s1_, i64_w, i32_w]
      rfl
     refine take_ (i := 11) (N := some 40) (v := ?_) (a' := ?_) #[true, true, true, true, true, true, true, true, true, false, true, true, false, false, false, false, false, false, false, false, false, false, false, false, false, false, false, false] rfl rfl (take_ofW HT_.out HW_.out (by kernel_rfl)) (fun _ _ _ h => h) (Or.inl ⟨by rfl, ?_⟩) hHeld ?_ ?_
     rotate_left
     ·
      rintro w' ⟨s0, s1, s2, s3, s4, s5, s6, s7⟩
      go_simp
      with_reducible rfl
     rotate_left
     ·
      simp only [Act.put, sI_, s0_, s1_, i64_w, i32_w]
      rfl
     refine one_ (i := 9) (N := some 38) #[true, true, true, true, true, true, true, true, true, true, true, true, false, false, false, false, false, false, false, false, false, false, false, false, false, false, false, false] rfl rfl (one_of HT_.out (by kernel_rfl)) (by decide) (fun K hK => ?_)
     refine goes_ Try.func17 (by kernel_rfl) rfl #[.agg #[.bool t875, .slice Ao23 t876.length co23]] (by rfl) rfl rfl (by (try simp only [List.map_toArray, List.map_cons, List.map_nil]); rfl) ?_
     with_reducible refine (whole_Sign.calls k t875 _ _ t876 t899 _ ?side1 ?side2 A12.out).mono ?_
     (case side1 => exact (Kd.R_reads' HO878.out).2.2)
     (case side2 => exact (Kd.R_reads' HO878.out).2.1)
     rintro e w55 ⟨rfl, hb⟩
     refine ⟨_, rfl, ?_⟩
     replace HO878 := am (Kd.R_below HO878.out hb)
     replace HO882 := am (Kd.R_below HO882.out hb)
     replace HO886 := am (Kd.R_below HO886.out hb)
     replace HO890 := am (Kd.R_below HO890.out hb)
     replace BK873 := am (blk_below BK873.out hb)
     replace BK874 := am (blk_below BK874.out hb)
     replace BK891 := am (blk_below BK891.out hb)
     replace BK892 := am (blk_below BK892.out hb)
     replace HB := am (below_step HB.out hb)
     (try clear hb)
     refine hK.out _ _ ⟨(blk_cell BK873.out 0).trans rfl, (blk_cell BK873.out 1).trans rfl, (blk_cell BK874.out 0).trans rfl, (blk_cell BK874.out 1).trans rfl, (blk_cell BK891.out 0).trans rfl, (blk_cell BK891.out 1).trans rfl, (blk_cell BK892.out 0).trans rfl, (blk_cell BK892.out 1).trans rfl⟩ (fun hHeld => ?_)
     clear hK K
     refine norm_ (a' := ?_) ?_ ?_
     rotate_left
     ·
      show Act.put _ (some 38) _ = _
      simp only [Act.put, sI_, s0_, s1_, i64_w, i32_w]
      rfl
     refine pure_ (i := 12) (N := some 41) (v := ?_) (a' := ?_) #[true, true, true, true, true, true, true, true, true, true, true, true, true, false, false, false, false, false, false, false, false, false, false, false, false, false, false, false] rfl rfl (any_of HT_.out (by kernel_rfl)) (fun _ _ _ h => h) (Or.inl ⟨by rfl, ?_⟩) ?_ ?_
     rotate_left
     ·
      intro w'
      go_simp
      with_reducible rfl
     rotate_left
     ·
      simp only [Act.put, sI_, s0_, s1_, i64_w, i32_w]
      rfl
     refine pure_ (i := 13) (N := some 42) (v := ?_) (a' := ?_) #[true, true, true, true, true, true, true, true, true, true, true, true, true, true, false, false, false, false, false, false, false, false, false, false, false, false, false, false] rfl rfl (any_of HT_.out (by kernel_rfl)) (fun _ _ _ h => h) (Or.inl ⟨by rfl, ?_⟩) ?_ ?_
     rotate_left
     ·
      intro w'
      go_simp
      with_reducible rfl
     rotate_left
     ·
      simp only [Act.put, sI_, s0_, s1_, i64_w, i32_w]
      rfl
     refine pure_ (i := 14) (N := some 43) (v := ?_) (a' := ?_) #[true, true, true, true, true, true, true, true, true, true, true, true, true, true, true, false, false, false, false, false, false, false, false, false, false, false, false, false] rfl rfl (any_of HT_.out (by kernel_rfl)) (fun _ _ _ h => h) (Or.inl ⟨by rfl, ?_⟩) ?_ ?_
     rotate_left
     ·
      intro w'
      go_simp
      with_reducible rfl
     rotate_left
     ·
      simp only [Act.put, sI_, s0_, s1_, i64_w, i32_w]
      rfl
     refine pure_ (i := 15) (N := some 44) (v := ?_) (a' := ?_) #[true, true, true, true, true, true, true, true, true, true, true, true, true, true, true, true, false, false, false, false, false, false, false, false, false, false, false, false] rfl rfl (any_of HT_.out (by kernel_rfl)) (fun _ _ _ h => h) (Or.inl ⟨by rfl, ?_⟩) ?_ ?_
     rotate_left
     ·
      intro w'
      go_simp
      with_reducible rfl
     rotate_left
     ·
      simp only [Act.put, sI_, s0_, s1_, i64_w, i32_w]
      rfl
     refine pure_ (i := 16) (N := some 45) (v := ?_) (a' := ?_) #[true, true, true, true, true, true, true, true, true, true, true, true, true, true, true, true, true, false, false, false, false, false, false, false, false, false, false, false] rfl rfl (any_of HT_.out (by kernel_rfl)) (fun _ _ _ h => h) (Or.inl ⟨by rfl, ?_⟩) ?_ ?_
     rotate_left
     ·
      intro w'
      go_simp
      with_reducible rfl
     rotate_left
     ·
      simp only [Act.put, sI_, s0_, s1_, i64_w, i32_w]
      rfl
     refine pure_ (i := 17) (N := some 46) (v := ?_) (a' := ?_) #[true, true, true, true, true, true, true, true, true, true, true, true, true, true, true, true, true, true, false, false, false, false, false, false, false, false, false, false] rfl rfl (any_of HT_.out (by kernel_rfl)) (fun _ _ _ h => h) (Or.inl ⟨by rfl, ?_⟩) ?_ ?_
     rotate_left
     ·
      intro w'
      go_simp
      with_reducible rfl
     rotate_left
     ·
      simp only [Act.put, sI_, s0_, s1_, i64_w, i32_w]
      rfl
     refine pure_ (i := 18) (N := some 47) (v := ?_) (a' := ?_) #[true, true, true, true, true, true, true, true, true, true, true, true, true, true, true, true, true, true, true, false, false, false, false, false, false, false, false, false] rfl rfl (any_of HT_.out (by kernel_rfl)) (fun _ _ _ h => h) (Or.inl ⟨by rfl, ?_⟩) ?_ ?_
     rotate_left
     ·
      intro w'
      go_simp
      with_reducible rfl
     rotate_left
     ·
      simp only [Act.put, sI_, s0_, s1_, i64_w, i32_w]
      rfl
     refine pure_ (i := 19) (N := some 48) (v := ?_) (a' := ?_) #[true, true, true, true, true, true, true, true, true, true, true, true, true, true, true, true, true, true, true, true, false, false, false, false, false, false, false, false] rfl rfl (any_of HT_.out (by kernel_rfl)) (fun _ _ _ h => h) (Or.inl ⟨by rfl, ?_⟩) ?_ ?_
     rotate_left
     ·
      intro w'
      go_simp
      with_reducible rfl
     rotate_left
     ·
      simp only [Act.put, sI_, s0_, s1_, i64_w, i32_w]
      rfl
     refine pure_ (i := 20) (N := some 49) (v := ?_) (a' := ?_) #[true, true, true, true, true, true, true, true, true, true, true, true, true, true, true, true, true, true, true, true, true, false, false, false, false, false, false, false] rfl rfl (any_of HT_.out (by kernel_rfl)) (fun _ _ _ h => h) (Or.inl ⟨by rfl, ?_⟩) ?_ ?_
     rotate_left
     ·
      intro w'
      go_simp
      with_reducible rfl
     rotate_left
     ·
      simp only [Act.put, sI_, s0_, s1_, i64_w, i32_w]
      rfl
     refine pure_ (i := 21) (N := some 50) (v := ?_) (a' := ?_) #[true, true, true, true, true, true, true, true, true, true, true, true, true, true, true, true, true, true, true, true, true, true, false, false, false, false, false, false] rfl rfl (any_of HT_.out (by kernel_rfl)) (fun _ _ _ h => h) (Or.inl ⟨by rfl, ?_⟩) ?_ ?_
     rotate_left
     ·
      intro w'
      go_simp
      with_reducible rfl
     rotate_left
     ·
      simp only [Act.put, sI_, s0_, s1_, i64_w, i32_w]
      rfl
     refine pure_ (i := 22) (N := some 51) (v := ?_) (a' := ?_) #[true, true, true, true, true, true, true, true, true, true, true, true, true, true, true, true, true, true, true, true, true, true, true, false, false, false, false, false] rfl rfl (any_of HT_.out (by kernel_rfl)) (fun _ _ _ h => h) (Or.inl ⟨by rfl, ?_⟩) ?_ ?_
     rotate_left
     ·
      intro w'
      go_simp
      with_reducible rfl
     rotate_left
     ·
      simp only [Act.put, sI_, s0_, s1_, i64_w, i32_w]
      rfl
     refine pure_ (i := 23) (N := some 52) (v := ?_) (a' := ?_) #[true, true, true, true, true, true, true, true, true, true, true, true, true, true, true, true, true, true, true, true, true, true, true, true, false, false, false, false] rfl rfl (any_of HT_.out (by kernel_rfl)) (fun _ _ _ h => h) (Or.inl ⟨by rfl, ?_⟩) ?_ ?_
     rotate_left
     ·
      intro w'
      go_simp
      with_reducible rfl
     rotate_left
     ·
      simp only [Act.put, sI_, s0_, s1_, i64_w, i32_w]
      rfl
     refine pure_ (i := 24) (N := some 53) (v := ?_) (a' := ?_) #[true, true, true, true, true, true, true, true, true, true, true, true, true, true, true, true, true, true, true, true, true, true, true, true, true, false, false, false] rfl rfl (any_of HT_.out (by kernel_rfl)) (fun _ _ _ h => h) (Or.inl ⟨by rfl, ?_⟩) ?_ ?_
     rotate_left
     ·
      intro w'
      go_simp
      with_reducible rfl
     rotate_left
     ·
      simp only [Act.put, sI_, s0_, s1_, i64_w, i32_w]
      rfl
     refine one_ (i := 25) (N := some 54) #[true, true, true, true, true, true, true, true, true, true, true, true, true, true, true, true, true, true, true, true, true, true, true, true, true, true, false, false] rfl rfl (one_of HT_.out (by kernel_rfl)) (by decide) (fun K hK => ?_)
     refine goes_ Try.func15 (by kernel_rfl) rfl #[] (by rfl) rfl rfl (by (try simp only [List.map_toArray, List.map_cons, List.map_nil]); done) ?_
     with_reducible refine (zelligelaw04_lives.calls k  t900 _ A16.out).mono ?_
     rintro e w56 ⟨rfl, hb⟩
     refine ⟨_, rfl, ?_⟩
     replace HO878 := am (Kd.R_below HO878.out hb)
     replace HO882 := am (Kd.R_below HO882.out hb)
     replace HO886 := am (Kd.R_below HO886.out hb)
     replace HO890 := am (Kd.R_below HO890.out hb)
     replace BK873 := am (blk_below BK873.out hb)
     replace BK874 := am (blk_below BK874.out hb)
     replace BK891 := am (blk_below BK891.out hb)
     replace BK892 := am (blk_below BK892.out hb)
     replace HB := am (below_step HB.out hb)
     (try clear hb)
     refine hK.out _ _ ⟨(blk_cell BK873.out 0).trans rfl, (blk_cell BK873.out 1).trans rfl, (blk_cell BK874.out 0).trans rfl, (blk_cell BK874.out 1).trans rfl, (blk_cell BK891.out 0).trans rfl, (blk_cell BK891.out 1).trans rfl, (blk_cell BK892.out 0).trans rfl, (blk_cell BK892.out 1).trans rfl⟩ (fun hHeld => ?_)
     clear hK K
     refine norm_ (a' := ?_) ?_ ?_
     rotate_left
     ·
      show Act.put _ (some 54) _ = _
      simp only [Act.put, sI_, s0_, s1_, i64_w, i32_w]
      rfl
     refine pure_ (i := 26) (N := some 55) (v := ?_) (a' := ?_) #[true, true, true, true, true, true, true, true, true, true, true, true, true, true, true, true, true, true, true, true, true, true, true, true, true, true, true, false] rfl rfl (any_of HT_.out (by kernel_rfl)) (fun _ _ _ h => h) (Or.inl ⟨by rfl, ?_⟩) ?_ ?_
     rotate_left
     ·
      intro w'
      go_simp
      with_reducible rfl
     rotate_left
     ·
      simp only [Act.put, sI_, s0_, s1_, i64_w, i32_w]
      rfl
     refine pure_ (i := 27) (N := some 4) (v := ?_) (a' := ?_) #[true, true, true, true, true, true, true, true, true, true, true, true, true, true, true, true, true, true, true, true, true, true, true, true, true, true, true, true] rfl rfl (any_of HT_.out (by kernel_rfl)) (fun _ _ _ h => h) (Or.inl ⟨by rfl, ?_⟩) ?_ ?_
     rotate_left
     ·
      intro w'
      go_simp
      with_reducible rfl
     rotate_left
     ·
      simp only [Act.put, sI_, s0_, s1_, i64_w, i32_w]
      rfl
     refine done_ (done_of HT_.out (by kernel_rfl)) ?_
     try go_wp2
     go_ret
     exact ⟨by rfl, by with_reducible exact HB.out⟩
    ·
     rw [if_neg c15] at H
     have c15b0 : (t894 == t896) = false := by simpa using c15
     (try (have c15b1 : decide (t894 = t896) = false := by simpa using c15))
     (try (have c15b2 : (t894 == t896) = false := by simpa using c15))
     (try (have c15b3 : ¬ (t894 = t896) := by simpa using c15))
     clear c15
     exact absurd (Option.some.inj (H.trans (congrArg some hT.out))) (by decide)
   ·
    rw [if_neg c14] at H
    have c14b0 : (t893 == t895) = false := beq_eq_false_iff_ne.mpr c14
    have c14b1 : (t893 != t895) = true := bne_iff_ne.mpr c14
    exact absurd (Option.some.inj (H.trans (congrArg some hT.out))) (by decide)
  ·
   rw [if_neg c13] at H
   have c13b0 : (t899 == t883) = false := beq_eq_false_iff_ne.mpr c13
   have c13b1 : (t899 != t883) = true := bne_iff_ne.mpr c13
   exact absurd (Option.some.inj (H.trans (congrArg some hT.out))) (by decide)
 ·
  rw [if_neg c11] at H
  have c11b0 : (t897 == t898) = false := beq_eq_false_iff_ne.mpr c11
  have c11b1 : (t897 != t898) = true := bne_iff_ne.mpr c11
  exact absurd (Option.some.inj (H.trans (congrArg some hT.out))) (by decide)

end Go.Proofs.Ytmfmojldebhboaa.ZWhole
