-- printed by zprint.py, a program of this session's
import Derived.Test.YtmfmojldebhboaaZWhole0
import Derived.Test.YtmfmojldebhboaaZWholegLive4
import Derived.Test.YtmfmojldebhboaaZWholegQOf
import Derived.Test.YtmfmojldebhboaaZWholegQShow
import Derived.Test.YtmfmojldebhboaaZWholegShort4
import Derived.Test.YtmfmojldebhboaaZWholegWParse
import Derived.Test.YtmfmojldebhboaaZWholegWShow
namespace Go.Proofs.Ytmfmojldebhboaa.ZWhole
open Go.RowKit Go.Proofs.YtmfmojldebhboaaW.PrintWords Go.Proofs.YtmfmojldebhboaaW.PrintLast Go.Proofs.YtmfmojldebhboaaW.PrintMore
set_option linter.unusedVariables false
set_option linter.unusedSimpArgs false

/-! ### zelligelaw04_WholeShows: function 7 -/
def zelligelaw04_WholeShows.f (k : Nat) (a0_0 : Bool) (l0_1 : List Int) : Option (Bool) := (zelligelaw04_Short.f a0_0 l0_1).bind fun bt993 => ((whole_Show.f k bt993.1 bt993.2).bind fun t997 => ((whole_Parse.f k t997).bind fun bt998 => ((zelligeref04_Of.f k bt993.1 bt993.2).bind fun bt1004 => ((zelligeref04_Show.f k bt1004.1 bt1004.2).bind fun t1008 => (if t997.toList = t1008.toList then ((zelligeref04_Of.f k bt993.1 bt993.2).bind fun bt1009 => ((zelligeref04_Same.f k bt998.1 bt998.2.1 bt1009.1 bt1009.2).bind fun t1013 => (if t1013 = true then (if bt998.2.2 = 0 then ((zelligelaw04_lives.f k).bind fun t1014 => (some t1014)) else (some false)) else (some false)))) else (some false))))))
theorem zelligelaw04_WholeShows.mono : ∀ a0 a1 k, LeO (zelligelaw04_WholeShows.f k a0 a1) (zelligelaw04_WholeShows.f (k + 1) a0 a1) := by
 intro a0 a1 k
 unfold zelligelaw04_WholeShows.f
 repeat' first
   | (with_reducible exact whole_Parse.mono _ _)
   | (with_reducible exact whole_Show.mono _ _ _)
   | (with_reducible exact zelligelaw04_lives.mono _)
   | (with_reducible exact zelligeref04_Of.mono _ _ _)
   | (with_reducible exact zelligeref04_Same.mono _ _ _ _ _)
   | (with_reducible exact zelligeref04_Show.mono _ _ _)
   | (with_reducible exact LeO.refl _)
   | (with_reducible refine LeO.ite ?_ ?_)
   | (with_reducible refine LeO.bind ?_ (fun _ => ?_))
def zelligelaw04_WholeShows.T4 : Bool × List (List Nat × List Nat) := (true, [([], []), ([], []), ([1], [1]), ([2, 2], [2]), ([0, 3], [0, 3]), ([4, 3], [4]), ([5], [5]), ([5], [5]), ([7, 5, 5], [5, 7]), ([6, 8, 8, 5], [5, 6, 8]), ([5, 9], [5, 9]), ([10, 9], [10]), ([11], [11]), ([12, 11], [11, 12]), ([11, 13], [11, 13]), ([14, 11], [14]), ([15, 15], [15]), ([15, 16], [15, 16]), ([17, 16, 0, 1, 2, 3, 4, 5, 6, 7, 8, 9, 10, 11, 12, 13, 14, 15, 16, 17], [17])])
def zelligelaw04_WholeShows.B4 : List Nat := [0, 0, 2, 6, 15, 31, 63, 63, 191, 511, 1023, 2047, 4095, 8191, 16383, 32767, 65535, 131071, 262143]
theorem zelligelaw04_WholeShows.tab4 : rtab .any (opsOf Try.f7 4) = zelligelaw04_WholeShows.T4 := by kernel_rfl
theorem zelligelaw04_WholeShows.bits4 : waitsOk zelligelaw04_WholeShows.T4.2 zelligelaw04_WholeShows.B4 = true := by kernel_rfl
set_option maxHeartbeats 8000000 in
set_option maxRecDepth 100000 in
theorem zelligelaw04_WholeShows.calls (k : Nat) (a0_0 : Bool) (A0_1 : Option Addr) (c0_1 : Nat) (l0_1 : List Int) (r : Bool) (w : World) (hr0_1 : Kd.C (Kd.int .u32) w A0_1 l0_1.length l0_1) (hc0_1 : l0_1.length ≤ c0_1) (h : zelligelaw04_WholeShows.f k a0_0 l0_1 = some r) (hT : Aside0 (r = true)) :
  Calls Try.prog 7 #[.agg #[.bool a0_0, .slice A0_1 l0_1.length c0_1]] w fun e w' => e = .returned (.bool r) ∧ Below w.heap.size w w' := by
 have hu25 := Try.underlying25
 have HR0_1 := am hr0_1
 have HC0_1 := am hc0_1
 clear hr0_1 hc0_1
 have HB := am (Below.refl w.heap.size w)
 have H : ((zelligelaw04_Short.f a0_0 l0_1).bind fun bt993 => ((whole_Show.f k bt993.1 bt993.2).bind fun t997 => ((whole_Parse.f k t997).bind fun bt998 => ((zelligeref04_Of.f k bt993.1 bt993.2).bind fun bt1004 => ((zelligeref04_Show.f k bt1004.1 bt1004.2).bind fun t1008 => (if t997.toList = t1008.toList then ((zelligeref04_Of.f k bt993.1 bt993.2).bind fun bt1009 => ((zelligeref04_Same.f k bt998.1 bt998.2.1 bt1009.1 bt1009.2).bind fun t1013 => (if t1013 = true then (if bt998.2.2 = 0 then ((zelligelaw04_lives.f k).bind fun t1014 => (some t1014)) else (some false)) else (some false)))) else (some false))))))) = some r := h
 clear h
 obtain ⟨⟨t993, t994⟩, A2, H⟩ := bindE H
 replace H : ((whole_Show.f k t993 t994).bind fun t997 => ((whole_Parse.f k t997).bind fun bt998 => ((zelligeref04_Of.f k t993 t994).bind fun bt1004 => ((zelligeref04_Show.f k bt1004.1 bt1004.2).bind fun t1008 => (if t997.toList = t1008.toList then ((zelligeref04_Of.f k t993 t994).bind fun bt1009 => ((zelligeref04_Same.f k bt998.1 bt998.2.1 bt1009.1 bt1009.2).bind fun t1013 => (if t1013 = true then (if bt998.2.2 = 0 then ((zelligelaw04_lives.f k).bind fun t1014 => (some t1014)) else (some false)) else (some false)))) else (some false)))))) = some r := H
 obtain ⟨t997, A3, H⟩ := bindE H
 obtain ⟨⟨t998, t999, t1002⟩, A4, H⟩ := bindE H
 replace H : ((zelligeref04_Of.f k t993 t994).bind fun bt1004 => ((zelligeref04_Show.f k bt1004.1 bt1004.2).bind fun t1008 => (if t997.toList = t1008.toList then ((zelligeref04_Of.f k t993 t994).bind fun bt1009 => ((zelligeref04_Same.f k t998 t999 bt1009.1 bt1009.2).bind fun t1013 => (if t1013 = true then (if t1002 = 0 then ((zelligelaw04_lives.f k).bind fun t1014 => (some t1014)) else (some false)) else (some false)))) else (some false)))) = some r := H
 obtain ⟨⟨t1004, t1005⟩, A5, H⟩ := bindE H
 replace H : ((zelligeref04_Show.f k t1004 t1005).bind fun t1008 => (if t997.toList = t1008.toList then ((zelligeref04_Of.f k t993 t994).bind fun bt1009 => ((zelligeref04_Same.f k t998 t999 bt1009.1 bt1009.2).bind fun t1013 => (if t1013 = true then (if t1002 = 0 then ((zelligelaw04_lives.f k).bind fun t1014 => (some t1014)) else (some false)) else (some false)))) else (some false))) = some r := H
 obtain ⟨t1008, A6, H⟩ := bindE H
 by_cases c7 : t997.toList = t1008.toList
 ·
  rw [if_pos c7] at H
  have c7b0 : (t997.toList == t1008.toList) = true := beq_iff_eq.mpr c7
  have c7b1 : (t997.toList != t1008.toList) = false := bne_eq_false_iff_eq.mpr c7
  clear c7
  obtain ⟨⟨t1009, t1010⟩, A8, H⟩ := bindE H
  replace H : ((zelligeref04_Same.f k t998 t999 t1009 t1010).bind fun t1013 => (if t1013 = true then (if t1002 = 0 then ((zelligelaw04_lives.f k).bind fun t1014 => (some t1014)) else (some false)) else (some false))) = some r := H
  obtain ⟨t1013, A9, H⟩ := bindE H
  by_cases c10 : t1013 = true
  ·
   subst c10
   rw [if_pos rfl] at H
   by_cases c11 : t1002 = 0
   ·
    rw [if_pos c11] at H
    have c11b0 : (t1002 == 0) = true := beq_iff_eq.mpr c11
    have c11b1 : (t1002 != 0) = false := bne_eq_false_iff_eq.mpr c11
    clear c11
    obtain ⟨t1014, A12, H⟩ := bindE H
    obtain rfl := Option.some.inj H
    go_enter Try.func7, Try.ntmps7
    try go_wp2_with (first | ((with_reducible refine gate_dst (N := 1) rfl ?_); refine box_event ?hg (N := 1) ?hd (cs := #[.bool a0_0, .slice A0_1 l0_1.length c0_1]) (t := 25) ?hr ?_; (case hd => rfl); (case hg => rfl); (case hr => (go_simp; done)); intro gb992 hg w13 hbox hb; have BK992 := am hbox; have GW992 := am (gel hg HB.out); have GE992 := am (gel hg HB.out); replace HB := am (below_step HB.out hb); clear hb hbox hg; have hcz14_0 : w13.cell? ⟨gb992, 0, none⟩ = some (.bool a0_0) := (blk_cell BK992.out 0).trans rfl; have hcz14_1 : w13.cell? ⟨gb992, 1, none⟩ = some (.slice A0_1 l0_1.length c0_1) := (blk_cell BK992.out 1).trans rfl; have hfz14_0 := blk_frozen BK992.out 0; have hfz14_1 := blk_frozen BK992.out 1) | ((with_reducible refine gate_callee (f := 11) rfl ?_); refine goesL_ (some 7) rfl rfl Try.func11 (by kernel_rfl) rfl #[.agg #[.bool a0_0, .slice A0_1 l0_1.length c0_1]] rfl (by (try simp only [List.map_toArray, List.map_cons, List.map_nil]); rfl) ?_; (with_reducible refine (zelligelaw04_Short.calls a0_0 _ _ l0_1 t993 t994 _ ?side1 ?side2 A2.out).mono ?_); (case side1 => repeat (exact (Kd.C_below HR0_1.out HB.out))); (case side2 => exact HC0_1.out); rintro e w15 ⟨v995, rfl, ho0, hb⟩; refine ⟨_, rfl, ?_⟩; have HO996 := am (Kd.R_lower ho0 (below_size HB.out)); replace BK992 := am (blk_below BK992.out hb); replace HB := am (below_step HB.out hb); (try clear hb); (try clear ho0); have hcz16_0 : w15.cell? ⟨gb992, 0, none⟩ = some (.bool a0_0) := (blk_cell BK992.out 0).trans rfl; have hcz16_1 : w15.cell? ⟨gb992, 1, none⟩ = some (.slice A0_1 l0_1.length c0_1) := (blk_cell BK992.out 1).trans rfl; have hfz16_0 := blk_frozen BK992.out 0; have hfz16_1 := blk_frozen BK992.out 1; obtain ⟨Ao17, co17, eo17⟩ := Kd.R_slice HO996.out; subst eo17) | ((with_reducible refine gate_callee (f := 32) rfl ?_); refine goesL_ (some 9) rfl rfl Try.func32 (by kernel_rfl) rfl #[.agg #[.bool t993, .slice Ao17 t994.length co17]] rfl (by (try simp only [List.map_toArray, List.map_cons, List.map_nil]); rfl) ?_; (with_reducible refine (whole_Show.calls k t993 _ _ t994 t997 _ ?side1 ?side2 A3.out).mono ?_); (case side1 => refine (Kd.R_reads' (e := 78) (base := w.heap.size) (ok := fun k_ => True) (n := t994.length) (c := co17) ?_).2.2; exact (by exact (Kd.R_mono (Kd.R_far (p := ⟨gb992, 1, none⟩) (Kd.R_far (p := ⟨gb992, 0, none⟩) (Kd.R_types HO996.out BK992.out (by decide)) (fun _ hk => by exact hk.2) (.bool t993)) (fun _ hk => by exact hk.2) (.slice Ao17 t994.length co17)) (fun _ h_ => h_.1)))); (case side2 => exact (Kd.R_reads' HO996.out).2.1); rintro e w18 ⟨rfl, hb⟩; refine ⟨_, rfl, ?_⟩; replace HO996 := am (Kd.R_below (by exact (Kd.R_mono (Kd.R_far (p := ⟨gb992, 1, none⟩) (Kd.R_far (p := ⟨gb992, 0, none⟩) (Kd.R_types HO996.out BK992.out (by decide)) (fun _ hk => by exact hk.2) (.bool t993)) (fun _ hk => by exact hk.2) (.slice Ao17 t994.length co17)) (fun _ h_ => h_.1))) hb); replace BK992 := am (blk_below (g := gb992) (o := .cells #[.bool t993, .slice Ao17 t994.length co17] 25 (0, 0)) (by refine blk_put (cs := #[.bool t993, .slice A0_1 l0_1.length c0_1]) ?_ 1 _ rfl; refine blk_put (cs := #[.bool a0_0, .slice A0_1 l0_1.length c0_1]) ?_ 0 _ rfl; exact BK992.out) hb); replace HB := am (below_step (by repeat ((with_reducible first | exact HB.out | refine below_set ?_ GE992.out))) hb); (try clear hb)) | ((with_reducible refine gate_callee (f := 33) rfl ?_); refine goesL_ (some 12) rfl rfl Try.func33 (by kernel_rfl) rfl #[.string t997] rfl (by (try simp only [List.map_toArray, List.map_cons, List.map_nil]); rfl) ?_; (with_reducible refine (whole_Parse.calls k t997 t998 t999 t1002 _ A4.out).mono ?_); rintro e w19 ⟨v1000, rfl, ho0, hb⟩; refine ⟨_, rfl, ?_⟩; have HO1001 := am (Kd.R_lower (Kd.R_new' ho0 (Kd.R_lt HO996.out)) (below_size HB.out)); replace HO996 := am (Kd.R_elder' HO996.out (Kd.R_base ho0) hb); replace BK992 := am (blk_below BK992.out hb); replace HB := am (below_step HB.out hb); (try clear hb); (try clear ho0)) | ((with_reducible refine gate_dst (N := 4) rfl ?_); refine box_event ?hg (N := 4) ?hd (cs := #[.bool false, .slice none 0 0]) (t := 25) ?hr ?_; (case hd => rfl); (case hg => rfl); (case hr => (go_simp; done)); intro gb1003 hg w20 hbox hb; replace HO996 := am (Kd.R_below HO996.out hb); replace HO1001 := am (Kd.R_below HO1001.out hb); have BK1003 := am hbox; have GW1003 := am (gel hg HB.out); have GE1003 := am (gel hg HB.out); replace HB := am (below_step HB.out hb); have NB992_1003 := am (nel hg BK992.out); have NB1003_992 := am (ner hg BK992.out); replace BK992 := am (blk_below BK992.out hb); clear hb hbox hg; have hnb21 := NB1003_992.out; have hnc21 := NB992_1003.out; have hcz22_0 : w20.cell? ⟨gb1003, 0, none⟩ = some (.bool false) := (blk_cell BK1003.out 0).trans rfl; have hcz22_1 : w20.cell? ⟨gb1003, 1, none⟩ = some (.slice none 0 0) := (blk_cell BK1003.out 1).trans rfl; have hfz22_0 := blk_frozen BK1003.out 0; have hfz22_1 := blk_frozen BK1003.out 1; obtain ⟨Ao23, co23, eo23⟩ := Kd.R_slice HO1001.out; subst eo23))
    have n0_ : Aside0 (Kd.R (Kd.int .u32) 78 ((w20.setCell ⟨gb1003, 0, none⟩ (.bool t998)).setCell ⟨gb1003, 1, none⟩ (.slice Ao23 t999.length co23)) w.heap.size (fun k_ => some k_ ≠ (.slice Ao23 t999.length co23 : Value).ownBlock) (.slice Ao17 t994.length co17) t994) := ⟨by exact Kd.R_mono (Kd.R_far (p := ⟨gb1003, 1, none⟩) (Kd.R_far (p := ⟨gb1003, 0, none⟩) (Kd.R_types HO996.out BK1003.out (by decide)) (fun _ hk => by exact hk.2) (.bool t998)) (fun _ hk => by exact hk.2) (.slice Ao23 t999.length co23)) (fun _ hk => hk.1.2)⟩
    have n1_ : Aside0 (Kd.R (Kd.int .u32) 78 ((w20.setCell ⟨gb1003, 0, none⟩ (.bool t998)).setCell ⟨gb1003, 1, none⟩ (.slice Ao23 t999.length co23)) w.heap.size (fun k_ => some k_ ≠ (.slice Ao17 t994.length co17 : Value).ownBlock) (.slice Ao23 t999.length co23) t999) := ⟨by exact Kd.R_mono (Kd.R_far (p := ⟨gb1003, 1, none⟩) (Kd.R_far (p := ⟨gb1003, 0, none⟩) (Kd.R_types HO1001.out BK1003.out (by decide)) (fun _ hk => by exact hk.2) (.bool t998)) (fun _ hk => by exact hk.2) (.slice Ao23 t999.length co23)) (fun _ hk => hk.1.2)⟩
    have n2_ : Aside0 (((w20.setCell ⟨gb1003, 0, none⟩ (.bool t998)).setCell ⟨gb1003, 1, none⟩ (.slice Ao23 t999.length co23)).heap[gb992]? = some (.cells #[.bool t993, .slice Ao17 t994.length co17] 25 (0, 0))) := ⟨by refine blk_far ?_ NB992_1003.out _; refine blk_far ?_ NB992_1003.out _; exact BK992.out⟩
    have n3_ : Aside0 (((w20.setCell ⟨gb1003, 0, none⟩ (.bool t998)).setCell ⟨gb1003, 1, none⟩ (.slice Ao23 t999.length co23)).heap[gb1003]? = some (.cells #[.bool t998, .slice Ao23 t999.length co23] 25 (0, 0))) := ⟨by refine blk_put (cs := #[.bool t998, .slice none 0 0]) ?_ 1 _ rfl; refine blk_put (cs := #[.bool false, .slice none 0 0]) ?_ 0 _ rfl; exact BK1003.out⟩
    have n4_ : Aside0 (Below w.heap.size w ((w20.setCell ⟨gb1003, 0, none⟩ (.bool t998)).setCell ⟨gb1003, 1, none⟩ (.slice Ao23 t999.length co23))) := ⟨by repeat ((with_reducible first | exact HB.out | refine below_set ?_ GE1003.out))⟩
    try clear HO996
    try clear HO1001
    try clear BK992
    try clear BK1003
    (try clear HB)
    generalize ((w20.setCell ⟨gb1003, 0, none⟩ (.bool t998)).setCell ⟨gb1003, 1, none⟩ (.slice Ao23 t999.length co23)) = w24 at n0_ n1_ n2_ n3_ n4_ ⊢
    have HO996 := n0_
    have HO1001 := n1_
    have BK992 := n2_
    have BK1003 := n3_
    have HB := n4_
    clear n0_ n1_ n2_ n3_ n4_
    replace HO996 := am (Kd.R_drew HO996.out)
    replace HO1001 := am (Kd.R_drew HO1001.out)
    replace BK992 := am (blk_drew BK992.out)
    replace BK1003 := am (blk_drew BK1003.out)
    replace HB := am (below_drew1 HB.out)
    refine start_ (n := 19) (S := fun w' => w'.cell? ⟨gb992, 0, none⟩ = some (.bool t993) ∧ w'.cell? ⟨gb992, 1, none⟩ = some (.slice Ao17 t994.length co17) ∧ w'.cell? ⟨gb1003, 0, none⟩ = some (.bool t998) ∧ w'.cell? ⟨gb1003, 1, none⟩ = some (.slice Ao23 t999.length co23)) (ds := []) #[false, false, false, false, false, false, false, false, false, false, false, false, false, false, false, false, false, false, false] (by kernel_rfl) rfl rfl ⟨(blk_cell BK992.out 0).trans rfl, (blk_cell BK992.out 1).trans rfl, (blk_cell BK1003.out 0).trans rfl, (blk_cell BK1003.out 1).trans rfl⟩ (fun hHeld => ?_); refine with_tabW zelligelaw04_WholeShows.tab4 zelligelaw04_WholeShows.bits4 (fun HT_ HW_ => ?_)
    generalize w24.drew = w25 at HO996 HO1001 BK992 BK1003 HB hHeld ⊢
    refine pure_ (i := 0) (N := some 15) (v := ?_) (a' := ?_) #[true, false, false, false, false, false, false, false, false, false, false, false, false, false, false, false, false, false, false] rfl rfl (any_of HT_.out (by kernel_rfl)) (fun _ _ _ h => h) (Or.inl ⟨by rfl, ?_⟩) ?_ ?_
    rotate_left
    ·
     intro w'
     go_simp
     with_reducible rfl
    rotate_left
    ·
     simp only [Act.put, sI_, s0_, s1_, i64_w, i32_w]
     rfl
    refine take_ (i := 1) (N := some 16) (v := ?_) (a' := ?_) #[true, true, false, false, false, false, false, false, false, false, false, false, false, false, false, false, false, false, false] rfl rfl (take_ofW HT_.out HW_.out (by kernel_rfl)) (fun _ _ _ h => h) (Or.inl ⟨by rfl, ?_⟩) hHeld ?_ ?_
    rotate_left
    ·
     rintro w' ⟨s0, s1, s2, s3⟩
     go_simp
     with_reducible rfl
    rotate_left
    ·
     simp only [Act.put, sI_, s0_, s1_, i64_w, i32_w]
     rfl
    refine one_ (i := 2) (N := some 17) #[true, true, true, false, false, false, false, false, false, false, false, false, false, false, false, false, false, false, false] rfl rfl (one_of HT_.out (by kernel_rfl)) (by decide) (fun K hK => ?_)
    refine goes_ Try.func13 (by kernel_rfl) rfl #[.agg #[.bool t993, .slice Ao17 t994.length co17]] (by rfl) rfl rfl (by (try simp only [List.map_toArray, List.map_cons, List.map_nil]); rfl) ?_
    with_reducible refine (zelligeref04_Of.calls k t993 _ _ t994 t1004 t1005 _ ?side1 ?side2 A5.out).mono ?_
    (case side1 => exact (Kd.R_reads' HO996.out).2.2)
    (case side2 => exact (Kd.R_reads' HO996.out).2.1)
    rintro e w26 ⟨v1006, rfl, ho0, hb⟩
    refine ⟨_, rfl, ?_⟩
    replace HO996 := am (Kd.R_below HO996.out hb)
    replace HO1001 := am (Kd.R_below HO1001.out hb)
    have HO1007 := am (Kd.R_lower ho0 (below_size HB.out))
    replace BK992 := am (blk_below BK992.out hb)
    replace BK1003 := am (blk_below BK1003.out hb)
    replace HB := am (below_step HB.out hb)
    try clear hb
    try clear ho0
    obtain ⟨Ao27, co27, eo27⟩ := Kd.R_slice HO1007.out
    (subst eo27)
    refine hK.out _ _ ⟨(blk_cell BK992.out 0).trans rfl, (blk_cell BK992.out 1).trans rfl, (blk_cell BK1003.out 0).trans rfl, (blk_cell BK1003.out 1).trans rfl⟩ (fun hHeld => ?_)
    clear hK K
    refine norm_ (a' := ?_) ?_ ?_
    rotate_left
    ·
     show Act.put _ (some 17) _ = _
     simp only [Act.put, sI_, s0_, s1_, i64_w, i32_w]
     rfl
    refine one_ (i := 3) (N := some 18) #[true, true, true, true, false, false, false, false, false, false, false, false, false, false, false, false, false, false, false] rfl rfl (one_of HT_.out (by kernel_rfl)) (by decide) (fun K hK => ?_)
    refine goes_ Try.func34 (by kernel_rfl) rfl #[.agg #[.int .i64 t1004, .slice Ao27 t1005.length co27]] (by rfl) rfl rfl (by (try simp only [List.map_toArray, List.map_cons, List.map_nil]); rfl) ?_
    with_reducible refine (zelligeref04_Show.calls k t1004 _ _ t1005 t1008 _ ?side1 ?side2 A6.out).mono ?_
    (case side1 => exact (Kd.R_reads' HO1007.out).2.2)
    (case side2 => exact (Kd.R_reads' HO1007.out).2.1)
    rintro e w28 ⟨rfl, hb⟩
    refine ⟨_, rfl, ?_⟩
    replace HO996 := am (Kd.R_below HO996.out hb)
    replace HO1001 := am (Kd.R_below HO1001.out hb)
    replace HO1007 := am (Kd.R_below HO1007.out hb)
    replace BK992 := am (blk_below BK992.out hb)
    replace BK1003 := am (blk_below BK1003.out hb)
    replace HB := am (below_step HB.out hb)
    (try clear hb)
    refine hK.out _ _ ⟨(blk_cell BK992.out 0).trans rfl, (blk_cell BK992.out 1).trans rfl, (blk_cell BK1003.out 0).trans rfl, (blk_cell BK1003.out 1).trans rfl⟩ (fun hHeld => ?_)
    clear hK K
    refine norm_ (a' := ?_) ?_ ?_
    rotate_left
    ·
     show Act.put _ (some 18) _ = _
     simp only [Act.put, sI_, s0_, s1_, i64_w, i32_w]
     rfl
    refine pure_ (i := 4) (N := some 19) (v := ?_) (a' := ?_) #[true, true, true, true, true, false, false, false, false, false, false, false, false, false, false, false, false, false, false] rfl rfl (any_of HT_.out (by kernel_rfl)) (fun _ _ _ h => h) (Or.inl ⟨by rfl, ?_⟩) ?_ ?_
    rotate_left
    ·
     intro w'
     go_simp
     with_reducible rfl
    rotate_left
    ·
     simp only [Act.put, sI_, s0_, s1_, i64_w, i32_w]
     rfl
    refine pure_ (i := 5) (N := some 20) (v := ?_) (a' := ?_) #[true, true, true, true, true, true, false, false, false, false, false, false, false, false, false, false, false, false, false] rfl rfl (any_of HT_.out (by kernel_rfl)) (fun _ _ _ h => h) (Or.inl ⟨by rfl, ?_⟩) ?_ ?_
    rotate_left
    ·
     intro w'
     go_simp
     with_reducible rfl
    rotate_left
    ·
     simp only [Act.put, sI_, s0_, s1_, i64_w, i32_w]
     rfl
    refine take_ (i := 6) (N := some 21) (v := ?_) (a' := ?_) #[true, true, true, true, true, true, true, false, false, false, false, false, false, false, false, false, false, false, false] rfl rfl (take_ofW HT_.out HW_.out (by kernel_rfl)) (fun _ _ _ h => h) (Or.inl ⟨by rfl, ?_⟩) hHeld ?_ ?_
    rotate_left
    ·
     rintro w' ⟨s0, s1, s2, s3⟩
     go_simp
     with_reducible rfl
    rotate_left
    ·
     simp only [Act.put, sI_, s0_, s1_, i64_w, i32_w]
     rfl
    refine take_ (i := 7) (N := some 22) (v := ?_) (a' := ?_) #[true, true, true, true, true, true, true, true, false, false, false, false, false, false, false, false, false, false, false] rfl rfl (take_ofW HT_.out HW_.out (by kernel_rfl)) (fun _ _ _ h => h) (Or.inl ⟨by rfl, ?_⟩) hHeld ?_ ?_
    rotate_left
    ·
     rintro w' ⟨s0, s1, s2, s3⟩
     go_simp
     with_reducible rfl
    rotate_left
    ·
     simp only [Act.put, sI_, s0_, s1_, i64_w, i32_w]
     rfl
    refine one_ (i := 8) (N := some 23) #[true, true, true, true, true, true, true, true, true, false, false, false, false, false, false, false, false, false, false] rfl rfl (one_of HT_.out (by kernel_rfl)) (by decide) (fun K hK => ?_)
    refine goes_ Try.func13 (by kernel_rfl) rfl #[.agg #[.bool t993, .slice Ao17 t994.length co17]] (by rfl) rfl rfl (by (try simp only [List.map_toArray, List.map_cons, List.map_nil]); rfl) ?_
    with_reducible refine (zelligeref04_Of.calls k t993 _ _ t994 t1009 t1010 _ ?side1 ?side2 A8.out).mono ?_
    (case side1 => exact (Kd.R_reads' HO996.out).2.2)
    (case side2 => exact (Kd.R_reads' HO996.out).2.1)
    rintro e w29 ⟨v1011, rfl, ho0, hb⟩
    refine ⟨_, rfl, ?_⟩
    replace HO996 := am (Kd.R_below HO996.out hb)
    replace HO1001 := am (Kd.R_below HO1001.out hb)
    have HO1012 := am (Kd.R_lower (Kd.R_new' ho0 (Kd.R_lt HO1007.out)) (below_size HB.out))
    replace HO1007 := am (Kd.R_elder' HO1007.out (Kd.R_base ho0) hb)
    replace BK992 := am (blk_below BK992.out hb)
    replace BK1003 := am (blk_below BK1003.out hb)
    replace HB := am (below_step HB.out hb)
    try clear hb
    try clear ho0
    obtain ⟨Ao30, co30, eo30⟩ := Kd.R_slice HO1012.out
    (subst eo30)
    refine hK.out _ _ ⟨(blk_cell BK992.out 0).trans rfl, (blk_cell BK992.out 1).trans rfl, (blk_cell BK1003.out 0).trans rfl, (blk_cell BK1003.out 1).trans rfl⟩ (fun hHeld => ?_)
    clear hK K
    refine norm_ (a' := ?_) ?_ ?_
    rotate_left
    ·
     show Act.put _ (some 23) _ = _
     simp only [Act.put, sI_, s0_, s1_, i64_w, i32_w]
     rfl
    refine one_ (i := 9) (N := some 24) #[true, true, true, true, true, true, true, true, true, true, false, false, false, false, false, false, false, false, false] rfl rfl (one_of HT_.out (by kernel_rfl)) (by decide) (fun K hK => ?_)
    refine goes_ Try.func14 (by kernel_rfl) rfl #[.agg #[.bool t998, .slice Ao23 t999.length co23], .agg #[.int .i64 t1009, .slice Ao30 t1010.length co30]] (by rfl) rfl rfl (by (try simp only [List.map_toArray, List.map_cons, List.map_nil]); rfl) ?_
    with_reducible refine (zelligeref04_Same.calls k t998 _ _ t999 t1009 _ _ t1010 true _ ?side1 ?side2 ?side3 ?side4 A9.out).mono ?_
    (case side1 => exact (Kd.R_reads' HO1001.out).2.2)
    (case side2 => exact (Kd.R_reads' HO1001.out).2.1)
    (case side3 => exact (Kd.R_reads' HO1012.out).2.2)
    (case side4 => exact (Kd.R_reads' HO1012.out).2.1)
    rintro e w31 ⟨rfl, hb⟩
    refine ⟨_, rfl, ?_⟩
    replace HO996 := am (Kd.R_below HO996.out hb)
    replace HO1001 := am (Kd.R_below HO1001.out hb)
    replace HO1007 := am (Kd.R_below HO1007.out hb)
    replace HO1012 := am (Kd.R_below HO1012.out hb)
    replace BK992 := am (blk_below BK992.out hb)
    replace BK1003 := am (blk_below BK1003.out hb)
    replace HB := am (below_step HB.out hb)
    (try clear hb)
    refine hK.out _ _ ⟨(blk_cell BK992.out 0).trans rfl, (blk_cell BK992.out 1).trans rfl, (blk_cell BK1003.out 0).trans rfl, (blk_cell BK1003.out 1).trans rfl⟩ (fun hHeld => ?_)
    clear hK K
    refine norm_ (a' := ?_) ?_ ?_
    rotate_left
    ·
     show Act.put _ (some 24) _ = _
     simp only [Act.put, sI_, s0_, s1_, i64_w, i32_w]
     rfl
    refine pure_ (i := 10) (N := some 25) (v := ?_) (a' := ?_) #[true, true, true, true, true, true, true, true, true, true, true, false, false, false, false, false, false, false, false] rfl rfl (any_of HT_.out (by kernel_rfl)) (fun _ _ _ h => h) (Or.inl ⟨by rfl, ?_⟩) ?_ ?_
    rotate_left
    ·
     intro w'
     go_simp
     with_reducible rfl
    rotate_left
    ·
     simp only [Act.put, sI_, s0_, s1_, i64_w, i32_w]
     rfl
    refine pure_ (i := 11) (N := some 26) (v := ?_) (a' := ?_) #[true, true, true, true, true, true, true, true, true, true, true, true, false, false, false, false, false, false, false] rfl rfl (any_of HT_.out (by kernel_rfl)) (fun _ _ _ h => h) (Or.inl ⟨by rfl, ?_⟩) ?_ ?_
    rotate_left
    ·
     intro w'
     go_simp
     with_reducible rfl
    rotate_left
    ·
     simp only [Act.put, sI_, s0_, s1_, i64_w, i32_w]
     rfl
    refine pure_ (i := 12) (N := some 27) (v := ?_) (a' := ?_) #[true, true, true, true, true, true, true, true, true, true, true, true, true, false, false, false, false, false, false] rfl rfl (any_of HT_.out (by kernel_rfl)) (fun _ _ _ h => h) (Or.inl ⟨by rfl, ?_⟩) ?_ ?_
    rotate_left
    ·
     intro w'
     go_simp
     with_reducible rfl
    rotate_left
    ·
     simp only [Act.put, sI_, s0_, s1_, i64_w, i32_w]
     rfl
    refine pure_ (i := 13) (N := some 28) (v := ?_) (a' := ?_) #[true, true, true, true, true, true, true, true, true, true, true, true, true, true, false, false, false, false, false] rfl rfl (any_of HT_.out (by kernel_rfl)) (fun _ _ _ h => h) (Or.inl ⟨by rfl, ?_⟩) ?_ ?_
    rotate_left
    ·
     intro w'
     go_simp
     with_reducible rfl
    rotate_left
    ·
     simp only [Act.put, sI_, s0_, s1_, i64_w, i32_w]
     rfl
    refine pure_ (i := 14) (N := some 29) (v := ?_) (a' := ?_) #[true, true, true, true, true, true, true, true, true, true, true, true, true, true, true, false, false, false, false] rfl rfl (any_of HT_.out (by kernel_rfl)) (fun _ _ _ h => h) (Or.inl ⟨by rfl, ?_⟩) ?_ ?_
    rotate_left
    ·
     intro w'
     go_simp
     with_reducible rfl
    rotate_left
    ·
     simp only [Act.put, sI_, s0_, s1_, i64_w, i32_w]
     rfl
    refine pure_ (i := 15) (N := some 30) (v := ?_) (a' := ?_) #[true, true, true, true, true, true, true, true, true, true, true, true, true, true, true, true, false, false, false] rfl rfl (any_of HT_.out (by kernel_rfl)) (fun _ _ _ h => h) (Or.inl ⟨by rfl, ?_⟩) ?_ ?_
    rotate_left
    ·
     intro w'
     go_simp
     with_reducible rfl
    rotate_left
    ·
     simp only [Act.put, sI_, s0_, s1_, i64_w, i32_w]
     rfl
    refine one_ (i := 16) (N := some 31) #[true, true, true, true, true, true, true, true, true, true, true, true, true, true, true, true, true, false, false] rfl rfl (one_of HT_.out (by kernel_rfl)) (by decide) (fun K hK => ?_)
    refine goes_ Try.func15 (by kernel_rfl) rfl #[] (by rfl) rfl rfl (by (try simp only [List.map_toArray, List.map_cons, List.map_nil]); done) ?_
    with_reducible refine (zelligelaw04_lives.calls k  t1014 _ A12.out).mono ?_
    rintro e w32 ⟨rfl, hb⟩
    refine ⟨_, rfl, ?_⟩
    replace HO996 := am (Kd.R_below HO996.out hb)
    replace HO1001 := am (Kd.R_below HO1001.out hb)
    replace HO1007 := am (Kd.R_below HO1007.out hb)
    replace HO1012 := am (Kd.R_below HO1012.out hb)
    replace BK992 := am (blk_below BK992.out hb)
    replace BK1003 := am (blk_below BK1003.out hb)
    replace HB := am (below_step HB.out hb)
    (try clear hb)
    refine hK.out _ _ ⟨(blk_cell BK992.out 0).trans rfl, (blk_cell BK992.out 1).trans rfl, (blk_cell BK1003.out 0).trans rfl, (blk_cell BK1003.out 1).trans rfl⟩ (fun hHeld => ?_)
    clear hK K
    refine norm_ (a' := ?_) ?_ ?_
    rotate_left
    ·
     show Act.put _ (some 31) _ = _
     simp only [Act.put, sI_, s0_, s1_, i64_w, i32_w]
     rfl
    refine pure_ (i := 17) (N := some 32) (v := ?_) (a' := ?_) #[true, true, true, true, true, true, true, true, true, true, true, true, true, true, true, true, true, true, false] rfl rfl (any_of HT_.out (by kernel_rfl)) (fun _ _ _ h => h) (Or.inl ⟨by rfl, ?_⟩) ?_ ?_
    rotate_left
    ·
     intro w'
     go_simp
     with_reducible rfl
    rotate_left
    ·
     simp only [Act.put, sI_, s0_, s1_, i64_w, i32_w]
     rfl
    refine pure_ (i := 18) (N := some 2) (v := ?_) (a' := ?_) #[true, true, true, true, true, true, true, true, true, true, true, true, true, true, true, true, true, true, true] rfl rfl (any_of HT_.out (by kernel_rfl)) (fun _ _ _ h => h) (Or.inl ⟨by rfl, ?_⟩) ?_ ?_
    rotate_left
    ·
     intro w'
     go_simp
     with_reducible rfl
    rotate_left
    ·
     simp only [Act.put, sI_, s0_, s1_, i64_w, i32_w]
     rfl
    refine done_ (done_of HT_.out (by kernel_rfl)) ?_
    try go_wp2
    go_ret
    exact ⟨by rfl, by with_reducible exact HB.out⟩
   ·
    rw [if_neg c11] at H
    have c11b0 : (t1002 == 0) = false := beq_eq_false_iff_ne.mpr c11
    have c11b1 : (t1002 != 0) = true := bne_iff_ne.mpr c11
    exact absurd (Option.some.inj (H.trans (congrArg some hT.out))) (by decide)
  ·
   replace c10 := Bool.eq_false_iff.mpr c10
   subst c10
   rw [if_neg (show ¬ (false = true) by decide)] at H
   exact absurd (Option.some.inj (H.trans (congrArg some hT.out))) (by decide)
 ·
  rw [if_neg c7] at H
  have c7b0 : (t997.toList == t1008.toList) = false := beq_eq_false_iff_ne.mpr c7
  have c7b1 : (t997.toList != t1008.toList) = true := bne_iff_ne.mpr c7
  exact absurd (Option.some.inj (H.trans (congrArg some hT.out))) (by decide)

end Go.Proofs.Ytmfmojldebhboaa.ZWhole
