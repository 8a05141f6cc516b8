-- printed by zprint.py, a program of this session's
import Derived.Test.YtmfmojldebhboaaZWhole0
import Derived.Test.YtmfmojldebhboaaZWholegLive4
import Derived.Test.YtmfmojldebhboaaZWholegQFloor
import Derived.Test.YtmfmojldebhboaaZWholegQOf
import Derived.Test.YtmfmojldebhboaaZWholegRTrim
import Derived.Test.YtmfmojldebhboaaZWholegShort4
import Derived.Test.YtmfmojldebhboaaZWholegSize
import Derived.Test.YtmfmojldebhboaaZWholegWFloor
namespace Go.Proofs.Ytmfmojldebhboaa.ZWhole
open Go.RowKit Go.Proofs.YtmfmojldebhboaaW.PrintWords Go.Proofs.YtmfmojldebhboaaW.PrintLast Go.Proofs.YtmfmojldebhboaaW.PrintMore
set_option linter.unusedVariables false
set_option linter.unusedSimpArgs false

/-! ### zelligelaw04_WholeFloors: function 3 -/
def zelligelaw04_WholeFloors.f (k : Nat) (a0_0 : Bool) (l0_1 : List Int) (a1_0 : Bool) (l1_1 : List Int) : Option (Bool) := (zelligelaw04_Short.f a0_0 l0_1).bind fun bt675 => ((zelligelaw04_Short.f a1_0 l1_1).bind fun bt679 => ((whole_Floor.f k bt675.1 bt675.2 bt679.1 bt679.2).bind fun bt683 => ((zelligeref04_Of.f k bt675.1 bt675.2).bind fun bt694 => ((zelligeref04_Of.f k bt679.1 bt679.2).bind fun bt698 => (if bt698.1 = 0 then ((zelligeref04_Same.f k bt683.1 bt683.2.1 0 ([] : List Int)).bind fun zZ => (if zZ = true then ((zelligeref04_Same.f k bt683.2.2.1 bt683.2.2.2.1 0 ([] : List Int)).bind fun z0 => (if z0 = true then (if bt683.2.2.2.2 = 3 then ((zelligelaw04_lives.f k).bind fun z1 => (some z1)) else (some false)) else (some false))) else (some false))) else ((zelligeref04_Floor.f k bt694.1 bt694.2 bt698.1 bt698.2).bind fun bt707 => ((whole_Sign.f k bt683.2.2.1 bt683.2.2.2.1).bind fun ze => ((zelligeref04_Same.f k bt683.1 bt683.2.1 bt707.1 bt707.2.1).bind fun z2 => (if z2 = true then ((zelligeref04_Same.f k bt683.2.2.1 bt683.2.2.2.1 bt707.2.2.1 bt707.2.2.2).bind fun z3 => (if z3 = true then (if bt683.2.2.2.2 = 0 then (if ze = 0 then ((zelligeref03_Cmp.f k bt707.2.2.2 bt698.2).bind fun zK => (if zK < 0 then ((zelligelaw04_lives.f k).bind fun z4 => (some z4)) else (some false))) else (if ze = bt698.1 then ((zelligeref03_Cmp.f k bt707.2.2.2 bt698.2).bind fun zL => (if zL < 0 then ((zelligelaw04_lives.f k).bind fun z5 => (some z5)) else (some false))) else (some false))) else (some false)) else (some false))) else (some false))))))))))
theorem zelligelaw04_WholeFloors.mono : ∀ a0 a1 a2 a3 k, LeO (zelligelaw04_WholeFloors.f k a0 a1 a2 a3) (zelligelaw04_WholeFloors.f (k + 1) a0 a1 a2 a3) := by
 intro a0 a1 a2 a3 k
 unfold zelligelaw04_WholeFloors.f
 repeat' first
   | (with_reducible exact whole_Floor.mono _ _ _ _ _)
   | (with_reducible exact whole_Sign.mono _ _ _)
   | (with_reducible exact zelligelaw04_lives.mono _)
   | (with_reducible exact zelligeref03_Cmp.mono _ _ _)
   | (with_reducible exact zelligeref04_Floor.mono _ _ _ _ _)
   | (with_reducible exact zelligeref04_Of.mono _ _ _)
   | (with_reducible exact zelligeref04_Same.mono _ _ _ _ _)
   | (with_reducible exact LeO.refl _)
   | (with_reducible refine LeO.ite ?_ ?_)
   | (with_reducible refine LeO.bind ?_ (fun _ => ?_))
def zelligelaw04_WholeFloors.T3 : Bool × List (List Nat × List Nat) := (true, [([], []), ([0], [0]), ([], []), ([2, 1], [2]), ([], []), ([], []), ([4, 1, 3, 0, 1, 4, 5], [1, 4]), ([5, 3, 6, 0, 1, 2, 3, 4, 5, 6], [3, 5])])
def zelligelaw04_WholeFloors.B3 : List Nat := [0, 1, 0, 7, 0, 0, 63, 127]
theorem zelligelaw04_WholeFloors.tab3 : rtab .any (opsOf Try.f3 3) = zelligelaw04_WholeFloors.T3 := by kernel_rfl
theorem zelligelaw04_WholeFloors.bits3 : waitsOk zelligelaw04_WholeFloors.T3.2 zelligelaw04_WholeFloors.B3 = true := by kernel_rfl
set_option maxHeartbeats 8000000 in
set_option maxRecDepth 100000 in
theorem zelligelaw04_WholeFloors.calls (k : Nat) (a0_0 : Bool) (zG : Option Addr) (zH : Nat) (l0_1 : List Int) (a1_0 : Bool) (zI : Option Addr) (zJ : Nat) (l1_1 : List Int) (r : Bool) (w : World) (hr0_1 : Kd.C (Kd.int .u32) w zG l0_1.length l0_1) (hc0_1 : l0_1.length ≤ zH) (hr1_1 : Kd.C (Kd.int .u32) w zI l1_1.length l1_1) (hc1_1 : l1_1.length ≤ zJ) (h : zelligelaw04_WholeFloors.f k a0_0 l0_1 a1_0 l1_1 = some r) (hT : Aside0 (r = true)) :
  Calls Try.prog 3 #[.agg #[.bool a0_0, .slice zG l0_1.length zH], .agg #[.bool a1_0, .slice zI l1_1.length zJ]] w fun e w' => e = .returned (.bool r) ∧ Below w.heap.size w w' := by
 have hu25 := Try.underlying25
 have hu33 := Try.underlying33
 have un := am hr0_1
 have uo := am hc0_1
 clear hr0_1 hc0_1
 have uq := am hr1_1
 have ur := am hc1_1
 clear hr1_1 hc1_1
 have HB := am (Below.refl w.heap.size w)
 have H : ((zelligelaw04_Short.f a0_0 l0_1).bind fun bt675 => ((zelligelaw04_Short.f a1_0 l1_1).bind fun bt679 => ((whole_Floor.f k bt675.1 bt675.2 bt679.1 bt679.2).bind fun bt683 => ((zelligeref04_Of.f k bt675.1 bt675.2).bind fun bt694 => ((zelligeref04_Of.f k bt679.1 bt679.2).bind fun bt698 => (if bt698.1 = 0 then ((zelligeref04_Same.f k bt683.1 bt683.2.1 0 ([] : List Int)).bind fun zZ => (if zZ = true then ((zelligeref04_Same.f k bt683.2.2.1 bt683.2.2.2.1 0 ([] : List Int)).bind fun z0 => (if z0 = true then (if bt683.2.2.2.2 = 3 then ((zelligelaw04_lives.f k).bind fun z1 => (some z1)) else (some false)) else (some false))) else (some false))) else ((zelligeref04_Floor.f k bt694.1 bt694.2 bt698.1 bt698.2).bind fun bt707 => ((whole_Sign.f k bt683.2.2.1 bt683.2.2.2.1).bind fun ze => ((zelligeref04_Same.f k bt683.1 bt683.2.1 bt707.1 bt707.2.1).bind fun z2 => (if z2 = true then ((zelligeref04_Same.f k bt683.2.2.1 bt683.2.2.2.1 bt707.2.2.1 bt707.2.2.2).bind fun z3 => (if z3 = true then (if bt683.2.2.2.2 = 0 then (if ze = 0 then ((zelligeref03_Cmp.f k bt707.2.2.2 bt698.2).bind fun zK => (if zK < 0 then ((zelligelaw04_lives.f k).bind fun z4 => (some z4)) else (some false))) else (if ze = bt698.1 then ((zelligeref03_Cmp.f k bt707.2.2.2 bt698.2).bind fun zL => (if zL < 0 then ((zelligelaw04_lives.f k).bind fun z5 => (some z5)) else (some false))) else (some false))) else (some false)) else (some false))) else (some false))))))))))) = some r := h
 clear h
 obtain ⟨⟨qZ, qa⟩, A3, H⟩ := bindE H
 dsimp only at H
 obtain ⟨⟨q0, qb⟩, A4, H⟩ := bindE H
 dsimp only at H
 obtain ⟨⟨qG, j2, qw, jZ, zB⟩, A5, H⟩ := bindE H
 dsimp only at H
 obtain ⟨⟨q5, q4⟩, A6, H⟩ := bindE H
 dsimp only at H
 obtain ⟨⟨qC, q3⟩, A7, H⟩ := bindE H
 dsimp only at H
 have H' := am H
 clear H
 go_enter Try.func3, Try.ntmps3
 try go_wp2_with (first | ((with_reducible refine gate_dst (N := 2) rfl ?_); refine box_event ?hg (N := 2) ?hd (cs := #[.bool a0_0, .slice zG l0_1.length zH]) (t := 25) ?hr ?_; (case hd => rfl); (case hg => rfl); (case hr => (go_simp; done)); intro jM hg Ze hbox hb; have ja := am hbox; have Qg := am (gel hg HB.out); have z6 := am (gel hg HB.out); replace HB := am (below_step HB.out hb); clear hb hbox hg) | ((with_reducible refine gate_dst (N := 3) rfl ?_); refine box_event ?hg (N := 3) ?hd (cs := #[.bool a1_0, .slice zI l1_1.length zJ]) (t := 25) ?hr ?_; (case hd => rfl); (case hg => rfl); (case hr => (go_simp; done)); intro jN hg QQ hbox hb; have jb := am hbox; have Qh := am (gel hg HB.out); have z7 := am (gel hg HB.out); replace HB := am (below_step HB.out hb); have qJ := am (nel hg ja.out); have qK := am (ner hg ja.out); replace ja := am (blk_below ja.out hb); clear hb hbox hg))
 replace ja := am (blk_drew ja.out)
 replace jb := am (blk_drew jb.out)
 replace HB := am (below_drew1 HB.out)
 refine start_ (n := 6) (S := fun w' => w'.cell? ⟨jM, 0, none⟩ = some (.bool a0_0) ∧ w'.cell? ⟨jM, 1, none⟩ = some (.slice zG l0_1.length zH) ∧ w'.cell? ⟨jN, 0, none⟩ = some (.bool a1_0) ∧ w'.cell? ⟨jN, 1, none⟩ = some (.slice zI l1_1.length zJ)) (ds := [4, 5]) #[false, false, false, false, false, false] (by kernel_rfl) rfl rfl ⟨(blk_cell ja.out 0).trans rfl, (blk_cell ja.out 1).trans rfl, (blk_cell jb.out 0).trans rfl, (blk_cell jb.out 1).trans rfl⟩ (fun hHeld => ?_)
 generalize QQ.drew = Zf at ja jb HB hHeld ⊢
 refine take_ (i := 0) (N := some 13) (v := ?_) (a' := ?_) #[true, false, false, false, false, false] rfl rfl (by kernel_rfl) (fun _ _ _ h => h) (Or.inl ⟨by rfl, ?_⟩) hHeld ?_ ?_
 rotate_left
 ·
  rintro w' ⟨s0, s1, s2, s3⟩
  go_simp
  with_reducible rfl
 rotate_left
 ·
  simp only [Act.put, sI_, s0_, s1_, i64_w, i32_w]
  rfl
 refine take_ (i := 2) (N := some 15) (v := ?_) (a' := ?_) #[true, false, true, false, false, false] rfl rfl (by kernel_rfl) (fun _ _ _ h => h) (Or.inl ⟨by rfl, ?_⟩) hHeld ?_ ?_
 rotate_left
 ·
  rintro w' ⟨s0, s1, s2, s3⟩
  go_simp
  with_reducible rfl
 rotate_left
 ·
  simp only [Act.put, sI_, s0_, s1_, i64_w, i32_w]
  rfl
 refine one_ (i := 1) (N := some 14) #[true, true, true, false, false, false] rfl rfl (by kernel_rfl) (by decide) (fun K hK => ?_)
 refine goes_ Try.func11 (by kernel_rfl) rfl #[.agg #[.bool a0_0, .slice zG l0_1.length zH]] (by rfl) rfl rfl (by (try simp only [List.map_toArray, List.map_cons, List.map_nil]); rfl) ?_
 with_reducible refine (zelligelaw04_Short.calls a0_0 _ _ l0_1 qZ qa _ ?side1 ?side2 A3.out).mono ?_
 (case side1 => repeat (exact (Kd.C_below un.out HB.out)))
 (case side2 => exact uo.out)
 rintro e Zg ⟨QR, rfl, ho0, hb⟩
 refine ⟨_, rfl, ?_⟩
 have je := am (Kd.R_lower ho0 (below_size HB.out))
 replace ja := am (blk_below ja.out hb)
 replace jb := am (blk_below jb.out hb)
 replace HB := am (below_step HB.out hb)
 try clear hb
 try clear ho0
 refine hK.out _ _ ⟨(blk_cell ja.out 0).trans rfl, (blk_cell ja.out 1).trans rfl, (blk_cell jb.out 0).trans rfl, (blk_cell jb.out 1).trans rfl⟩ (fun hHeld => ?_)
 clear hK K
 refine norm_ (a' := ?_) ?_ ?_
 rotate_left
 ·
  show Act.put _ (some 14) _ = _
  simp only [Act.put, sI_, s0_, s1_, i64_w, i32_w]
  rfl
 refine one_ (i := 3) (N := some 16) #[true, true, true, true, false, false] rfl rfl (by kernel_rfl) (by decide) (fun K hK => ?_)
 refine goes_ Try.func11 (by kernel_rfl) rfl #[.agg #[.bool a1_0, .slice zI l1_1.length zJ]] (by rfl) rfl rfl (by (try simp only [List.map_toArray, List.map_cons, List.map_nil]); rfl) ?_
 with_reducible refine (zelligelaw04_Short.calls a1_0 _ _ l1_1 q0 qb _ ?side1 ?side2 A4.out).mono ?_
 (case side1 => repeat (exact (Kd.C_below uq.out HB.out)))
 (case side2 => exact ur.out)
 rintro e uh ⟨QS, rfl, ho0, hb⟩
 refine ⟨_, rfl, ?_⟩
 have jg := am (Kd.R_lower (Kd.R_new' ho0 (Kd.R_lt je.out)) (below_size HB.out))
 replace je := am (Kd.R_elder' je.out (Kd.R_base ho0) hb)
 replace ja := am (blk_below ja.out hb)
 replace jb := am (blk_below jb.out hb)
 replace HB := am (below_step HB.out hb)
 try clear hb
 try clear ho0
 obtain ⟨qt, qo, eo21⟩ := Kd.R_slice je.out
 (subst eo21)
 obtain ⟨qu, qp, eo24⟩ := Kd.R_slice jg.out
 (subst eo24)
 refine hK.out _ _ ⟨(blk_cell ja.out 0).trans rfl, (blk_cell ja.out 1).trans rfl, (blk_cell jb.out 0).trans rfl, (blk_cell jb.out 1).trans rfl⟩ (fun hHeld => ?_)
 clear hK K
 refine norm_ (a' := ?_) ?_ ?_
 rotate_left
 ·
  show Act.put _ (some 16) _ = _
  simp only [Act.put, sI_, s0_, s1_, i64_w, i32_w]
  rfl
 refine last_ (i := 4) (N := none) #[true, true, true, true, true, false] rfl rfl (by kernel_rfl) (by decide) (fun K hK => ?_)
 have QT : uh.cell? ⟨jM, 0, none⟩ = some (.bool a0_0) := (blk_cell ja.out 0).trans rfl
 have hfs20 := blk_frozen ja.out 0
 have hns20_1 := qK.out
 have hms20_1 := qJ.out
 have QU : uh.cell? ⟨jM, 1, none⟩ = some (.slice zG l0_1.length zH) := (blk_cell ja.out 1).trans rfl
 have hfs22 := blk_frozen ja.out 1
 have hns22_1 := qK.out
 have hms22_1 := qJ.out
 refine skip_ (w1 := ?_) (by rfl) rfl ?_ ?_
 rotate_left
 ·
  go_simp
  rfl
 refine hK.out _ _ ?_
 clear hK K
 refine last_ (i := 5) (N := none) #[true, true, true, true, true, true] rfl rfl (by kernel_rfl) (by decide) (fun K hK => ?_)
 have QV : uh.cell? ⟨jN, 0, none⟩ = some (.bool a1_0) := (blk_cell jb.out 0).trans rfl
 have hfs23 := blk_frozen jb.out 0
 have hns23_0 := qJ.out
 have hms23_0 := qK.out
 have QW : uh.cell? ⟨jN, 1, none⟩ = some (.slice zI l1_1.length zJ) := (blk_cell jb.out 1).trans rfl
 have hfs25 := blk_frozen jb.out 1
 have hns25_0 := qJ.out
 have hms25_0 := qK.out
 refine skip_ (w1 := ?_) (by rfl) rfl ?_ ?_
 rotate_left
 ·
  go_simp
  rfl
 refine hK.out _ _ ?_
 clear hK K
 refine done_ (by kernel_rfl) ?_
 have Qi := qJ.out
 have Qj := qK.out
 have XK : uh.cell? ⟨jM, 0, none⟩ = some (.bool a0_0) := (blk_cell ja.out 0).trans rfl
 have XL : uh.cell? ⟨jM, 1, none⟩ = some (.slice zG l0_1.length zH) := (blk_cell ja.out 1).trans rfl
 have XM := blk_frozen ja.out 0
 have XN := blk_frozen ja.out 1
 have XO : uh.cell? ⟨jN, 0, none⟩ = some (.bool a1_0) := (blk_cell jb.out 0).trans rfl
 have XP : uh.cell? ⟨jN, 1, none⟩ = some (.slice zI l1_1.length zJ) := (blk_cell jb.out 1).trans rfl
 have XQ := blk_frozen jb.out 0
 have XR := blk_frozen jb.out 1
 try go_wp2_with (first | ((with_reducible refine gate_callee (f := 12) rfl ?_); refine goesL_ (some 20) rfl rfl Try.func12 (by kernel_rfl) rfl #[.agg #[.bool qZ, .slice qt qa.length qo], .agg #[.bool q0, .slice qu qb.length qp]] rfl (by (try simp only [List.map_toArray, List.map_cons, List.map_nil]); rfl) ?_; (with_reducible refine (whole_Floor.calls k qZ _ _ qa q0 _ _ qb qG j2 qw jZ zB _ ?side1 ?side2 ?side3 ?side4 A5.out).mono ?_); (case side1 => refine (Kd.R_reads' (e := 78) (base := w.heap.size) (ok := fun k_ => (True ∧ some k_ ≠ (.slice qu qb.length qp : Value).ownBlock)) (n := qa.length) (c := qo) ?_).2.2; exact (by exact (Kd.R_mono (Kd.R_mono (Kd.R_far (p := ⟨jN, 1, none⟩) (Kd.R_far (p := ⟨jN, 0, none⟩) (Kd.R_far (p := ⟨jM, 1, none⟩) (Kd.R_far (p := ⟨jM, 0, none⟩) (Kd.R_types (Kd.R_types je.out ja.out (by decide)) jb.out (by decide)) (fun _ hk => by exact hk.1.2) (.bool qZ)) (fun _ hk => by exact hk.1.2) (.slice qt qa.length qo)) (fun _ hk => by exact hk.2) (.bool q0)) (fun _ hk => by exact hk.2) (.slice qu qb.length qp)) (fun _ h_ => h_.1)) (fun _ h_ => h_.1)))); (case side2 => exact (Kd.R_reads' je.out).2.1); (case side3 => refine (Kd.R_reads' (e := 78) (base := w.heap.size) (ok := fun k_ => (True ∧ some k_ ≠ (.slice qt qa.length qo : Value).ownBlock)) (n := qb.length) (c := qp) ?_).2.2; exact (by exact (Kd.R_mono (Kd.R_mono (Kd.R_far (p := ⟨jN, 1, none⟩) (Kd.R_far (p := ⟨jN, 0, none⟩) (Kd.R_far (p := ⟨jM, 1, none⟩) (Kd.R_far (p := ⟨jM, 0, none⟩) (Kd.R_types (Kd.R_types jg.out ja.out (by decide)) jb.out (by decide)) (fun _ hk => by exact hk.1.2) (.bool qZ)) (fun _ hk => by exact hk.1.2) (.slice qt qa.length qo)) (fun _ hk => by exact hk.2) (.bool q0)) (fun _ hk => by exact hk.2) (.slice qu qb.length qp)) (fun _ h_ => h_.1)) (fun _ h_ => h_.1)))); (case side4 => exact (Kd.R_reads' jg.out).2.1); rintro e Zh ⟨QX, QY, rfl, ho0, ho1, hb⟩; refine ⟨_, rfl, ?_⟩; have jh := am (Kd.R_lower (Kd.R_new' (Kd.R_new' ho0 (Kd.R_lt (by exact (Kd.R_mono (Kd.R_mono (Kd.R_far (p := ⟨jN, 1, none⟩) (Kd.R_far (p := ⟨jN, 0, none⟩) (Kd.R_far (p := ⟨jM, 1, none⟩) (Kd.R_far (p := ⟨jM, 0, none⟩) (Kd.R_types (Kd.R_types je.out ja.out (by decide)) jb.out (by decide)) (fun _ hk => by exact hk.1.2) (.bool qZ)) (fun _ hk => by exact hk.1.2) (.slice qt qa.length qo)) (fun _ hk => by exact hk.2) (.bool q0)) (fun _ hk => by exact hk.2) (.slice qu qb.length qp)) (fun _ h_ => h_.1)) (fun _ h_ => h_.1))))) (Kd.R_lt (by exact (Kd.R_mono (Kd.R_mono (Kd.R_far (p := ⟨jN, 1, none⟩) (Kd.R_far (p := ⟨jN, 0, none⟩) (Kd.R_far (p := ⟨jM, 1, none⟩) (Kd.R_far (p := ⟨jM, 0, none⟩) (Kd.R_types (Kd.R_types jg.out ja.out (by decide)) jb.out (by decide)) (fun _ hk => by exact hk.1.2) (.bool qZ)) (fun _ hk => by exact hk.1.2) (.slice qt qa.length qo)) (fun _ hk => by exact hk.2) (.bool q0)) (fun _ hk => by exact hk.2) (.slice qu qb.length qp)) (fun _ h_ => h_.1)) (fun _ h_ => h_.1))))) (below_size (by repeat ((with_reducible first | exact HB.out | refine below_set ?_ z6.out | refine below_set ?_ z7.out))))); have jf := am (Kd.R_lower (Kd.R_new' (Kd.R_new' ho1 (Kd.R_lt (by exact (Kd.R_mono (Kd.R_mono (Kd.R_far (p := ⟨jN, 1, none⟩) (Kd.R_far (p := ⟨jN, 0, none⟩) (Kd.R_far (p := ⟨jM, 1, none⟩) (Kd.R_far (p := ⟨jM, 0, none⟩) (Kd.R_types (Kd.R_types je.out ja.out (by decide)) jb.out (by decide)) (fun _ hk => by exact hk.1.2) (.bool qZ)) (fun _ hk => by exact hk.1.2) (.slice qt qa.length qo)) (fun _ hk => by exact hk.2) (.bool q0)) (fun _ hk => by exact hk.2) (.slice qu qb.length qp)) (fun _ h_ => h_.1)) (fun _ h_ => h_.1))))) (Kd.R_lt (by exact (Kd.R_mono (Kd.R_mono (Kd.R_far (p := ⟨jN, 1, none⟩) (Kd.R_far (p := ⟨jN, 0, none⟩) (Kd.R_far (p := ⟨jM, 1, none⟩) (Kd.R_far (p := ⟨jM, 0, none⟩) (Kd.R_types (Kd.R_types jg.out ja.out (by decide)) jb.out (by decide)) (fun _ hk => by exact hk.1.2) (.bool qZ)) (fun _ hk => by exact hk.1.2) (.slice qt qa.length qo)) (fun _ hk => by exact hk.2) (.bool q0)) (fun _ hk => by exact hk.2) (.slice qu qb.length qp)) (fun _ h_ => h_.1)) (fun _ h_ => h_.1))))) (below_size (by repeat ((with_reducible first | exact HB.out | refine below_set ?_ z6.out | refine below_set ?_ z7.out))))); replace je := am (Kd.R_mono (Kd.R_told (Kd.R_told (Kd.R_old (by exact (Kd.R_mono (Kd.R_mono (Kd.R_far (p := ⟨jN, 1, none⟩) (Kd.R_far (p := ⟨jN, 0, none⟩) (Kd.R_far (p := ⟨jM, 1, none⟩) (Kd.R_far (p := ⟨jM, 0, none⟩) (Kd.R_types (Kd.R_types je.out ja.out (by decide)) jb.out (by decide)) (fun _ hk => by exact hk.1.2) (.bool qZ)) (fun _ hk => by exact hk.1.2) (.slice qt qa.length qo)) (fun _ hk => by exact hk.2) (.bool q0)) (fun _ hk => by exact hk.2) (.slice qu qb.length qp)) (fun _ h_ => h_.1)) (fun _ h_ => h_.1))) hb) (Kd.R_base ho0)) (Kd.R_base ho1)) (fun _ h_ => h_.1)); replace jg := am (Kd.R_mono (Kd.R_told (Kd.R_told (Kd.R_old (by exact (Kd.R_mono (Kd.R_mono (Kd.R_far (p := ⟨jN, 1, none⟩) (Kd.R_far (p := ⟨jN, 0, none⟩) (Kd.R_far (p := ⟨jM, 1, none⟩) (Kd.R_far (p := ⟨jM, 0, none⟩) (Kd.R_types (Kd.R_types jg.out ja.out (by decide)) jb.out (by decide)) (fun _ hk => by exact hk.1.2) (.bool qZ)) (fun _ hk => by exact hk.1.2) (.slice qt qa.length qo)) (fun _ hk => by exact hk.2) (.bool q0)) (fun _ hk => by exact hk.2) (.slice qu qb.length qp)) (fun _ h_ => h_.1)) (fun _ h_ => h_.1))) hb) (Kd.R_base ho0)) (Kd.R_base ho1)) (fun _ h_ => h_.1)); replace ja := am (blk_below (g := jM) (o := .cells #[.bool qZ, .slice qt qa.length qo] 25 (0, 0)) (by refine blk_far ?_ qJ.out _; refine blk_far ?_ qJ.out _; refine blk_put (cs := #[.bool qZ, .slice zG l0_1.length zH]) ?_ 1 _ rfl; refine blk_put (cs := #[.bool a0_0, .slice zG l0_1.length zH]) ?_ 0 _ rfl; exact ja.out) hb); replace jb := am (blk_below (g := jN) (o := .cells #[.bool q0, .slice qu qb.length qp] 25 (0, 0)) (by refine blk_put (cs := #[.bool q0, .slice zI l1_1.length zJ]) ?_ 1 _ rfl; refine blk_put (cs := #[.bool a1_0, .slice zI l1_1.length zJ]) ?_ 0 _ rfl; refine blk_far ?_ qK.out _; refine blk_far ?_ qK.out _; exact jb.out) hb); replace HB := am (below_step (by repeat ((with_reducible first | exact HB.out | refine below_set ?_ z6.out | refine below_set ?_ z7.out))) hb); (try clear hb); (try clear ho0); (try clear ho1)) | ((with_reducible refine gate_dst (N := 5) rfl ?_); refine box_event ?hg (N := 5) ?hd (cs := #[.bool false, .slice none 0 0]) (t := 25) ?hr ?_; (case hd => rfl); (case hg => rfl); (case hr => (go_simp; done)); intro jI hg Zi hbox hb; replace je := am (Kd.R_below je.out hb); replace jg := am (Kd.R_below jg.out hb); replace jh := am (Kd.R_below jh.out hb); replace jf := am (Kd.R_below jf.out hb); have jd := am hbox; have Qk := am (gel hg HB.out); have us := am (gel hg HB.out); replace HB := am (below_step HB.out hb); have zf := am (nel hg ja.out); have zS := am (ner hg ja.out); replace ja := am (blk_below ja.out hb); have zg := am (nel hg jb.out); have zT := am (ner hg jb.out); replace jb := am (blk_below jb.out hb); clear hb hbox hg) | ((with_reducible refine gate_dst (N := 6) rfl ?_); refine box_event ?hg (N := 6) ?hd (cs := #[.bool false, .slice none 0 0]) (t := 25) ?hr ?_; (case hd => rfl); (case hg => rfl); (case hr => (go_simp; done)); intro jq hg zR hbox hb; replace je := am (Kd.R_below je.out hb); replace jg := am (Kd.R_below jg.out hb); replace jh := am (Kd.R_below jh.out hb); replace jf := am (Kd.R_below jf.out hb); have jc := am hbox; have Ql := am (gel hg HB.out); have ut := am (gel hg HB.out); replace HB := am (below_step HB.out hb); have zh := am (nel hg ja.out); have zU := am (ner hg ja.out); replace ja := am (blk_below ja.out hb); have zi := am (nel hg jb.out); have zV := am (ner hg jb.out); replace jb := am (blk_below jb.out hb); have zj := am (nel hg jd.out); have zk := am (ner hg jd.out); replace jd := am (blk_below jd.out hb); clear hb hbox hg; have Qm := zS.out; have Qn := zf.out; have Qo := zT.out; have Qp := zg.out; have Qq := zj.out; have Qr := zk.out; have XS : zR.cell? ⟨jI, 0, none⟩ = some (.bool false) := (blk_cell jd.out 0).trans rfl; have XT : zR.cell? ⟨jI, 1, none⟩ = some (.slice none 0 0) := (blk_cell jd.out 1).trans rfl; have XU := blk_frozen jd.out 0; have XV := blk_frozen jd.out 1; obtain ⟨ql, qm, eo36⟩ := Kd.R_slice jh.out; subst eo36; have Qs := zU.out; have Qt := zh.out; have Qu := zV.out; have Qv := zi.out; have XW : zR.cell? ⟨jq, 0, none⟩ = some (.bool false) := (blk_cell jc.out 0).trans rfl; have XX : zR.cell? ⟨jq, 1, none⟩ = some (.slice none 0 0) := (blk_cell jc.out 1).trans rfl; have XY := blk_frozen jc.out 0; have XZ := blk_frozen jc.out 1; obtain ⟨qn, qd, eo40⟩ := Kd.R_slice jf.out; subst eo40))
 have n0_ : Aside0 (Kd.R (Kd.int .u32) 78 ((((zR.setCell ⟨jI, 0, none⟩ (.bool qG)).setCell ⟨jI, 1, none⟩ (.slice ql j2.length qm)).setCell ⟨jq, 0, none⟩ (.bool qw)).setCell ⟨jq, 1, none⟩ (.slice qn jZ.length qd)) w.heap.size (fun k_ => some k_ ≠ (.slice qu qb.length qp : Value).ownBlock ∧ some k_ ≠ (.slice ql j2.length qm : Value).ownBlock ∧ some k_ ≠ (.slice qn jZ.length qd : Value).ownBlock) (.slice qt qa.length qo) qa) := ⟨by exact Kd.R_mono (Kd.R_far (p := ⟨jq, 1, none⟩) (Kd.R_far (p := ⟨jq, 0, none⟩) (Kd.R_far (p := ⟨jI, 1, none⟩) (Kd.R_far (p := ⟨jI, 0, none⟩) (Kd.R_types (Kd.R_types je.out jd.out (by decide)) jc.out (by decide)) (fun _ hk => by exact hk.1.2) (.bool qG)) (fun _ hk => by exact hk.1.2) (.slice ql j2.length qm)) (fun _ hk => by exact hk.2) (.bool qw)) (fun _ hk => by exact hk.2) (.slice qn jZ.length qd)) (fun _ hk => ⟨hk.1.1.1.1.2, ⟨hk.1.1.1.2, hk.1.1.2⟩⟩)⟩
 have n1_ : Aside0 (Kd.R (Kd.int .u32) 78 ((((zR.setCell ⟨jI, 0, none⟩ (.bool qG)).setCell ⟨jI, 1, none⟩ (.slice ql j2.length qm)).setCell ⟨jq, 0, none⟩ (.bool qw)).setCell ⟨jq, 1, none⟩ (.slice qn jZ.length qd)) w.heap.size (fun k_ => some k_ ≠ (.slice qt qa.length qo : Value).ownBlock ∧ some k_ ≠ (.slice ql j2.length qm : Value).ownBlock ∧ some k_ ≠ (.slice qn jZ.length qd : Value).ownBlock) (.slice qu qb.length qp) qb) := ⟨by exact Kd.R_mono (Kd.R_far (p := ⟨jq, 1, none⟩) (Kd.R_far (p := ⟨jq, 0, none⟩) (Kd.R_far (p := ⟨jI, 1, none⟩) (Kd.R_far (p := ⟨jI, 0, none⟩) (Kd.R_types (Kd.R_types jg.out jd.out (by decide)) jc.out (by decide)) (fun _ hk => by exact hk.1.2) (.bool qG)) (fun _ hk => by exact hk.1.2) (.slice ql j2.length qm)) (fun _ hk => by exact hk.2) (.bool qw)) (fun _ hk => by exact hk.2) (.slice qn jZ.length qd)) (fun _ hk => ⟨hk.1.1.1.1.2, ⟨hk.1.1.1.2, hk.1.1.2⟩⟩)⟩
 have n2_ : Aside0 (Kd.R (Kd.int .u32) 78 ((((zR.setCell ⟨jI, 0, none⟩ (.bool qG)).setCell ⟨jI, 1, none⟩ (.slice ql j2.length qm)).setCell ⟨jq, 0, none⟩ (.bool qw)).setCell ⟨jq, 1, none⟩ (.slice qn jZ.length qd)) w.heap.size (fun k_ => some k_ ≠ (.slice qt qa.length qo : Value).ownBlock ∧ some k_ ≠ (.slice qu qb.length qp : Value).ownBlock ∧ some k_ ≠ (.slice qn jZ.length qd : Value).ownBlock) (.slice ql j2.length qm) j2) := ⟨by exact Kd.R_mono (Kd.R_far (p := ⟨jq, 1, none⟩) (Kd.R_far (p := ⟨jq, 0, none⟩) (Kd.R_far (p := ⟨jI, 1, none⟩) (Kd.R_far (p := ⟨jI, 0, none⟩) (Kd.R_types (Kd.R_types jh.out jd.out (by decide)) jc.out (by decide)) (fun _ hk => by exact hk.1.2) (.bool qG)) (fun _ hk => by exact hk.1.2) (.slice ql j2.length qm)) (fun _ hk => by exact hk.2) (.bool qw)) (fun _ hk => by exact hk.2) (.slice qn jZ.length qd)) (fun _ hk => ⟨hk.1.1.1.2, ⟨hk.1.1.2, hk.1.1.1.1⟩⟩)⟩
 have n3_ : Aside0 (Kd.R (Kd.int .u32) 78 ((((zR.setCell ⟨jI, 0, none⟩ (.bool qG)).setCell ⟨jI, 1, none⟩ (.slice ql j2.length qm)).setCell ⟨jq, 0, none⟩ (.bool qw)).setCell ⟨jq, 1, none⟩ (.slice qn jZ.length qd)) w.heap.size (fun k_ => some k_ ≠ (.slice qt qa.length qo : Value).ownBlock ∧ some k_ ≠ (.slice qu qb.length qp : Value).ownBlock ∧ some k_ ≠ (.slice ql j2.length qm : Value).ownBlock) (.slice qn jZ.length qd) jZ) := ⟨by exact Kd.R_mono (Kd.R_far (p := ⟨jq, 1, none⟩) (Kd.R_far (p := ⟨jq, 0, none⟩) (Kd.R_far (p := ⟨jI, 1, none⟩) (Kd.R_far (p := ⟨jI, 0, none⟩) (Kd.R_types (Kd.R_types jf.out jd.out (by decide)) jc.out (by decide)) (fun _ hk => by exact hk.1.2) (.bool qG)) (fun _ hk => by exact hk.1.2) (.slice ql j2.length qm)) (fun _ hk => by exact hk.2) (.bool qw)) (fun _ hk => by exact hk.2) (.slice qn jZ.length qd)) (fun _ hk => ⟨hk.1.1.1.2, ⟨hk.1.1.2, hk.1.1.1.1⟩⟩)⟩
 have n4_ : Aside0 (((((zR.setCell ⟨jI, 0, none⟩ (.bool qG)).setCell ⟨jI, 1, none⟩ (.slice ql j2.length qm)).setCell ⟨jq, 0, none⟩ (.bool qw)).setCell ⟨jq, 1, none⟩ (.slice qn jZ.length qd)).heap[jM]? = some (.cells #[.bool qZ, .slice qt qa.length qo] 25 (0, 0))) := ⟨by refine blk_far ?_ zh.out _; refine blk_far ?_ zh.out _; refine blk_far ?_ zf.out _; refine blk_far ?_ zf.out _; exact ja.out⟩
 have n5_ : Aside0 (((((zR.setCell ⟨jI, 0, none⟩ (.bool qG)).setCell ⟨jI, 1, none⟩ (.slice ql j2.length qm)).setCell ⟨jq, 0, none⟩ (.bool qw)).setCell ⟨jq, 1, none⟩ (.slice qn jZ.length qd)).heap[jN]? = some (.cells #[.bool q0, .slice qu qb.length qp] 25 (0, 0))) := ⟨by refine blk_far ?_ zi.out _; refine blk_far ?_ zi.out _; refine blk_far ?_ zg.out _; refine blk_far ?_ zg.out _; exact jb.out⟩
 have n6_ : Aside0 (((((zR.setCell ⟨jI, 0, none⟩ (.bool qG)).setCell ⟨jI, 1, none⟩ (.slice ql j2.length qm)).setCell ⟨jq, 0, none⟩ (.bool qw)).setCell ⟨jq, 1, none⟩ (.slice qn jZ.length qd)).heap[jI]? = some (.cells #[.bool qG, .slice ql j2.length qm] 25 (0, 0))) := ⟨by refine blk_far ?_ zj.out _; refine blk_far ?_ zj.out _; refine blk_put (cs := #[.bool qG, .slice none 0 0]) ?_ 1 _ rfl; refine blk_put (cs := #[.bool false, .slice none 0 0]) ?_ 0 _ rfl; exact jd.out⟩
 have n7_ : Aside0 (((((zR.setCell ⟨jI, 0, none⟩ (.bool qG)).setCell ⟨jI, 1, none⟩ (.slice ql j2.length qm)).setCell ⟨jq, 0, none⟩ (.bool qw)).setCell ⟨jq, 1, none⟩ (.slice qn jZ.length qd)).heap[jq]? = some (.cells #[.bool qw, .slice qn jZ.length qd] 25 (0, 0))) := ⟨by refine blk_put (cs := #[.bool qw, .slice none 0 0]) ?_ 1 _ rfl; refine blk_put (cs := #[.bool false, .slice none 0 0]) ?_ 0 _ rfl; refine blk_far ?_ zk.out _; refine blk_far ?_ zk.out _; exact jc.out⟩
 have n8_ : Aside0 (Below w.heap.size w ((((zR.setCell ⟨jI, 0, none⟩ (.bool qG)).setCell ⟨jI, 1, none⟩ (.slice ql j2.length qm)).setCell ⟨jq, 0, none⟩ (.bool qw)).setCell ⟨jq, 1, none⟩ (.slice qn jZ.length qd))) := ⟨by repeat ((with_reducible first | exact HB.out | refine below_set ?_ us.out | refine below_set ?_ ut.out))⟩
 try clear je
 try clear jg
 try clear jh
 try clear jf
 try clear ja
 try clear jb
 try clear jd
 try clear jc
 (try clear HB)
 generalize ((((zR.setCell ⟨jI, 0, none⟩ (.bool qG)).setCell ⟨jI, 1, none⟩ (.slice ql j2.length qm)).setCell ⟨jq, 0, none⟩ (.bool qw)).setCell ⟨jq, 1, none⟩ (.slice qn jZ.length qd)) = QZ at n0_ n1_ n2_ n3_ n4_ n5_ n6_ n7_ n8_ ⊢
 have je := n0_
 have jg := n1_
 have jh := n2_
 have jf := n3_
 have ja := n4_
 have jb := n5_
 have jd := n6_
 have jc := n7_
 have HB := n8_
 clear n0_ n1_ n2_ n3_ n4_ n5_ n6_ n7_ n8_
 replace je := am (Kd.R_drew je.out)
 replace jg := am (Kd.R_drew jg.out)
 replace jh := am (Kd.R_drew jh.out)
 replace jf := am (Kd.R_drew jf.out)
 replace ja := am (blk_drew ja.out)
 replace jb := am (blk_drew jb.out)
 replace jd := am (blk_drew jd.out)
 replace jc := am (blk_drew jc.out)
 replace HB := am (below_drew1 HB.out)
 refine start_ (n := 8) (S := fun w' => True) (ds := []) #[false, false, false, false, false, false, false, false] (by kernel_rfl) rfl rfl trivial (fun hHeld => ?_); refine with_tabW zelligelaw04_WholeFloors.tab3 zelligelaw04_WholeFloors.bits3 (fun HT_ HW_ => ?_)
 generalize QZ.drew = Zj at je jg jh jf ja jb jd jc HB hHeld ⊢
 refine inv_at [0, 1, 2, 3, 4, 5, 6, 7] (fun a0_ b a w' => ∃ (q1 : Value) (q2 : Value) (jl : Nat) (jj : Nat) (m1_ : Value) (m3_ : Value) (m4_ : Value) (m5_ : Value), a = putSel a0_ b [(0, 24, .agg #[.bool qZ, .slice qt qa.length qo]), (1, 25, m1_), (2, 26, .agg #[.bool q0, .slice qu qb.length qp]), (3, 27, m3_), (4, 8, m4_), (5, 9, m5_)] ∧ (Kd.R (Kd.int .u32) 78 w' w.heap.size (fun k_ => some k_ ≠ (.slice qu qb.length qp : Value).ownBlock ∧ some k_ ≠ (.slice ql j2.length qm : Value).ownBlock ∧ some k_ ≠ (.slice qn jZ.length qd : Value).ownBlock) (.slice qt qa.length qo) qa) ∧ (Kd.R (Kd.int .u32) 78 w' w.heap.size (fun k_ => some k_ ≠ (.slice qt qa.length qo : Value).ownBlock ∧ some k_ ≠ (.slice ql j2.length qm : Value).ownBlock ∧ some k_ ≠ (.slice qn jZ.length qd : Value).ownBlock) (.slice qu qb.length qp) qb) ∧ (Kd.R (Kd.int .u32) 78 w' w.heap.size (fun k_ => some k_ ≠ (.slice qt qa.length qo : Value).ownBlock ∧ some k_ ≠ (.slice qu qb.length qp : Value).ownBlock ∧ some k_ ≠ (.slice qn jZ.length qd : Value).ownBlock) (.slice ql j2.length qm) j2) ∧ (Kd.R (Kd.int .u32) 78 w' w.heap.size (fun k_ => some k_ ≠ (.slice qt qa.length qo : Value).ownBlock ∧ some k_ ≠ (.slice qu qb.length qp : Value).ownBlock ∧ some k_ ≠ (.slice ql j2.length qm : Value).ownBlock) (.slice qn jZ.length qd) jZ) ∧ (w'.heap[jM]? = some (.cells #[.bool qZ, .slice qt qa.length qo] 25 (0, 0))) ∧ (w'.heap[jN]? = some (.cells #[.bool q0, .slice qu qb.length qp] 25 (0, 0))) ∧ (w'.heap[jI]? = some (.cells #[.bool qG, .slice ql j2.length qm] 25 (0, 0))) ∧ (w'.heap[jq]? = some (.cells #[.bool qw, .slice qn jZ.length qd] 25 (0, 0))) ∧ (Below w.heap.size w w') ∧ (b 4 = true → b 5 = true → jj ≠ jl) ∧ (b 4 = true → b 5 = true → jl ≠ jj) ∧ (b 1 = true → Kd.R (Kd.int .i64) 3 w' w.heap.size (fun _ => True) q1 q4) ∧ (b 3 = true → Kd.R (Kd.int .i64) 3 w' w.heap.size (fun _ => True) q2 q3) ∧ (b 4 = true → b 6 = false → w'.heap[jl]? = some (.cells #[.int .i64 0, .slice none 0 0] 33 (0, 0))) ∧ (b 4 = true → w.heap.size ≤ jl) ∧ (b 4 = true → w.heap.size ≤ jl) ∧ (b 4 = true → jM ≠ jl) ∧ (b 4 = true → jl ≠ jM) ∧ (b 4 = true → jN ≠ jl) ∧ (b 4 = true → jl ≠ jN) ∧ (b 4 = true → jI ≠ jl) ∧ (b 4 = true → jl ≠ jI) ∧ (b 4 = true → jq ≠ jl) ∧ (b 4 = true → jl ≠ jq) ∧ (b 5 = true → b 7 = false → w'.heap[jj]? = some (.cells #[.int .i64 0, .slice none 0 0] 33 (0, 0))) ∧ (b 5 = true → w.heap.size ≤ jj) ∧ (b 5 = true → w.heap.size ≤ jj) ∧ (b 5 = true → jM ≠ jj) ∧ (b 5 = true → jj ≠ jM) ∧ (b 5 = true → jN ≠ jj) ∧ (b 5 = true → jj ≠ jN) ∧ (b 5 = true → jI ≠ jj) ∧ (b 5 = true → jj ≠ jI) ∧ (b 5 = true → jq ≠ jj) ∧ (b 5 = true → jj ≠ jq) ∧ (b 6 = true → w'.heap[jl]? = some (.cells #[.int .i64 q5, q1] 33 (0, 0))) ∧ (b 7 = true → w'.heap[jj]? = some (.cells #[.int .i64 qC, q2] 33 (0, 0))) ∧ (b 1 = true → (m1_ : Value) = .agg #[.int .i64 q5, q1]) ∧ (b 3 = true → (m3_ : Value) = .agg #[.int .i64 qC, q2]) ∧ (b 4 = true → (m4_ : Value) = .pointer (some ⟨jl, 0, none⟩)) ∧ (b 5 = true → (m5_ : Value) = .pointer (some ⟨jj, 0, none⟩))) HT_.out HW_.out (by kernel_rfl) (by kernel_rfl) ?_ ?_ ?_
 ·
  exact ⟨.bool false, .bool false, 0, 0, .bool false, .bool false, .bool false, .bool false, by simp only [putSel, Bool.false_eq_true, if_false], je.out, jg.out, jh.out, jf.out, ja.out, jb.out, jd.out, jc.out, HB.out, fun h_ => absurd h_ (by decide), fun h_ => absurd h_ (by decide), fun h_ => absurd h_ (by decide), fun h_ => absurd h_ (by decide), fun h_ => absurd h_ (by decide), fun h_ => absurd h_ (by decide), fun h_ => absurd h_ (by decide), fun h_ => absurd h_ (by decide), fun h_ => absurd h_ (by decide), fun h_ => absurd h_ (by decide), fun h_ => absurd h_ (by decide), fun h_ => absurd h_ (by decide), fun h_ => absurd h_ (by decide), fun h_ => absurd h_ (by decide), fun h_ => absurd h_ (by decide), fun h_ => absurd h_ (by decide), fun h_ => absurd h_ (by decide), fun h_ => absurd h_ (by decide), fun h_ => absurd h_ (by decide), fun h_ => absurd h_ (by decide), fun h_ => absurd h_ (by decide), fun h_ => absurd h_ (by decide), fun h_ => absurd h_ (by decide), fun h_ => absurd h_ (by decide), fun h_ => absurd h_ (by decide), fun h_ => absurd h_ (by decide), fun h_ => absurd h_ (by decide), fun h_ => absurd h_ (by decide), fun h_ => absurd h_ (by decide), fun h_ => absurd h_ (by decide), fun h_ => absurd h_ (by decide), fun h_ => absurd h_ (by decide)⟩
 ·
  skip
  clear ja jb jd jc HB je jg jh jf
  refine steps_cons ?_ ?_
  ·
   rintro b a w' ⟨q1, q2, jl, jj, m1_, m3_, m4_, m5_, ha, jQ, jR, jS, jT, jU, jV, jW, jX, Q_HB, jJ, jK, qc, qv, j5, j6, j7, js, jt, ju, jv, jw, jx, jy, jz, j1, j8, j9, jA, jB, jC, jD, jE, jF, jG, jH, jO, jY, Q_X1_, Q_X3_, Q_X4_, Q_X5_⟩ hb_ hon hoff
   refine ⟨_, rfl, fun K hK => ?_⟩
   have e2 : a.tmps[2]? = some (.pointer (some ⟨jM, 0, none⟩)) := by rw [ha]; exact (putSel_off rfl).trans rfl
   replace ha := am ha
   have je := am jQ
   have jg := am jR
   have jh := am jS
   have jf := am jT
   have ja := am jU
   have jb := am jV
   have jd := am jW
   have jc := am jX
   have HB := am Q_HB
   have hc0_ : w'.cell? ⟨jM, 0, none⟩ = some (.bool qZ) := (blk_cell ja.out 0).trans rfl
   have hc1_ : w'.cell? ⟨jM, 1, none⟩ = some (.slice qt qa.length qo) := (blk_cell ja.out 1).trans rfl
   refine value_ (w1 := w') (v := .agg #[.bool qZ, .slice qt qa.length qo]) (by rfl) rfl ?_ ?_
   ·
    go_simp
   refine hK.out _ _ ⟨q1, q2, jl, jj, m1_, m3_, m4_, m5_, (by rw [ha.out]; exact putSel_upk 0 hb_ rfl rfl rfl), jQ, jR, jS, jT, jU, jV, jW, jX, Q_HB, jJ, jK, fun h0_ => absurd ((hoff 1 (by kernel_rfl)).symm.trans h0_) (by decide), fun h0_ => absurd ((hoff 3 (by kernel_rfl)).symm.trans h0_) (by decide), j5, j6, j7, js, jt, ju, jv, jw, jx, jy, jz, j1, j8, j9, jA, jB, jC, jD, jE, jF, jG, jH, fun h0_ => absurd ((hoff 6 (by kernel_rfl)).symm.trans h0_) (by decide), fun h0_ => absurd ((hoff 7 (by kernel_rfl)).symm.trans h0_) (by decide), fun h0_ => absurd ((hoff 1 (by kernel_rfl)).symm.trans h0_) (by decide), fun h0_ => absurd ((hoff 3 (by kernel_rfl)).symm.trans h0_) (by decide), Q_X4_, Q_X5_⟩
  refine steps_cons ?_ ?_
  ·
   rintro b a w' ⟨q1, q2, jl, jj, m1_, m3_, m4_, m5_, ha, jQ, jR, jS, jT, jU, jV, jW, jX, Q_HB, jJ, jK, qc, qv, j5, j6, j7, js, jt, ju, jv, jw, jx, jy, jz, j1, j8, j9, jA, jB, jC, jD, jE, jF, jG, jH, jO, jY, Q_X1_, Q_X3_, Q_X4_, Q_X5_⟩ hb_ hon hoff
   refine ⟨_, rfl, fun K hK => ?_⟩
   have e24 : a.tmps[24]? = some (.agg #[.bool qZ, .slice qt qa.length qo]) := by rw [ha]; exact putSel_on (e := (0, 24, .agg #[.bool qZ, .slice qt qa.length qo])) 0 rfl rfl (hon 0 (by kernel_rfl)) rfl
   replace ha := am ha
   have je := am jQ
   have jg := am jR
   have jh := am jS
   have jf := am jT
   have ja := am jU
   have jb := am jV
   have jd := am jW
   have jc := am jX
   have HB := am Q_HB
   refine goes_ Try.func13 (by kernel_rfl) rfl #[.agg #[.bool qZ, .slice qt qa.length qo]] (by rfl) rfl rfl (by (simp only [List.map_toArray, List.map_cons, List.map_nil, Act.eval, Array.getD_eq_getD_getElem?, Option.getD_some, e24]; done)) ?_
   with_reducible refine (zelligeref04_Of.calls k qZ _ _ qa q5 q4 _ ?side1 ?side2 A6.out).mono ?_
   (case side1 => exact (Kd.R_reads' je.out).2.2)
   (case side2 => exact (Kd.R_reads' je.out).2.1)
   rintro e ua ⟨q1, rfl, ho0, hb⟩
   refine ⟨_, rfl, ?_⟩
   have n0_ := am (Kd.R_below je.out hb)
   have n1_ := am (Kd.R_below jg.out hb)
   have n2_ := am (Kd.R_below jh.out hb)
   have n3_ := am (Kd.R_below jf.out hb)
   have n4_ := am (Kd.R_lower ho0 (below_size HB.out))
   have n5_ := am (blk_below ja.out hb)
   have n6_ := am (blk_below jb.out hb)
   have n7_ := am (blk_below jd.out hb)
   have n8_ := am (blk_below jc.out hb)
   have n9_ := am (below_step HB.out hb)
   have z_BK702 := fun (h0_ : b 4 = true) (h1_ : b 6 = false) => (show ua.heap[jl]? = some (.cells #[.int .i64 0, .slice none 0 0] 33 (0, 0)) from by exact (blk_below (g := jl) (o := .cells #[.int .i64 0, .slice none 0 0] 33 (0, 0)) (by exact (j5 h0_ h1_)) hb))
   have z_BK703 := fun (h0_ : b 5 = true) (h1_ : b 7 = false) => (show ua.heap[jj]? = some (.cells #[.int .i64 0, .slice none 0 0] 33 (0, 0)) from by exact (blk_below (g := jj) (o := .cells #[.int .i64 0, .slice none 0 0] 33 (0, 0)) (by exact (j1 h0_ h1_)) hb))
   clear je
   clear jg
   clear jh
   clear jf
   clear ja
   clear jb
   clear jd
   clear jc
   clear HB
   have je := n0_
   have jg := n1_
   have jh := n2_
   have jf := n3_
   have jr := n4_
   have ja := n5_
   have jb := n6_
   have jd := n7_
   have jc := n8_
   have HB := n9_
   clear n0_ n1_ n2_ n3_ n4_ n5_ n6_ n7_ n8_ n9_
   try clear hb
   try clear ho0
   refine hK.out _ _ ⟨q1, q2, jl, jj, (.agg #[.int .i64 q5, q1]), m3_, m4_, m5_, (by rw [ha.out]; exact putSel_upk 1 hb_ rfl rfl rfl), je.out, jg.out, jh.out, jf.out, ja.out, jb.out, jd.out, jc.out, HB.out, jJ, jK, fun _ => jr.out, fun h0_ => absurd ((hoff 3 (by kernel_rfl)).symm.trans h0_) (by decide), z_BK702, j6, j7, js, jt, ju, jv, jw, jx, jy, jz, z_BK703, j8, j9, jA, jB, jC, jD, jE, jF, jG, jH, fun h0_ => absurd ((hoff 6 (by kernel_rfl)).symm.trans h0_) (by decide), fun h0_ => absurd ((hoff 7 (by kernel_rfl)).symm.trans h0_) (by decide), fun _ => rfl, fun h0_ => absurd ((hoff 3 (by kernel_rfl)).symm.trans h0_) (by decide), Q_X4_, Q_X5_⟩
  refine steps_cons ?_ ?_
  ·
   rintro b a w' ⟨q1, q2, jl, jj, m1_, m3_, m4_, m5_, ha, jQ, jR, jS, jT, jU, jV, jW, jX, Q_HB, jJ, jK, qc, qv, j5, j6, j7, js, jt, ju, jv, jw, jx, jy, jz, j1, j8, j9, jA, jB, jC, jD, jE, jF, jG, jH, jO, jY, Q_X1_, Q_X3_, Q_X4_, Q_X5_⟩ hb_ hon hoff
   refine ⟨_, rfl, fun K hK => ?_⟩
   have e3 : a.tmps[3]? = some (.pointer (some ⟨jN, 0, none⟩)) := by rw [ha]; exact (putSel_off rfl).trans rfl
   replace ha := am ha
   have je := am jQ
   have jg := am jR
   have jh := am jS
   have jf := am jT
   have ja := am jU
   have jb := am jV
   have jd := am jW
   have jc := am jX
   have HB := am Q_HB
   have hc0_ : w'.cell? ⟨jN, 0, none⟩ = some (.bool q0) := (blk_cell jb.out 0).trans rfl
   have hc1_ : w'.cell? ⟨jN, 1, none⟩ = some (.slice qu qb.length qp) := (blk_cell jb.out 1).trans rfl
   refine value_ (w1 := w') (v := .agg #[.bool q0, .slice qu qb.length qp]) (by rfl) rfl ?_ ?_
   ·
    go_simp
   refine hK.out _ _ ⟨q1, q2, jl, jj, m1_, m3_, m4_, m5_, (by rw [ha.out]; exact putSel_upk 2 hb_ rfl rfl rfl), jQ, jR, jS, jT, jU, jV, jW, jX, Q_HB, jJ, jK, qc, fun h0_ => absurd ((hoff 3 (by kernel_rfl)).symm.trans h0_) (by decide), j5, j6, j7, js, jt, ju, jv, jw, jx, jy, jz, j1, j8, j9, jA, jB, jC, jD, jE, jF, jG, jH, fun h0_ => absurd ((hoff 6 (by kernel_rfl)).symm.trans h0_) (by decide), fun h0_ => absurd ((hoff 7 (by kernel_rfl)).symm.trans h0_) (by decide), Q_X1_, fun h0_ => absurd ((hoff 3 (by kernel_rfl)).symm.trans h0_) (by decide), Q_X4_, Q_X5_⟩
  refine steps_cons ?_ ?_
  ·
   rintro b a w' ⟨q1, q2, jl, jj, m1_, m3_, m4_, m5_, ha, jQ, jR, jS, jT, jU, jV, jW, jX, Q_HB, jJ, jK, qc, qv, j5, j6, j7, js, jt, ju, jv, jw, jx, jy, jz, j1, j8, j9, jA, jB, jC, jD, jE, jF, jG, jH, jO, jY, Q_X1_, Q_X3_, Q_X4_, Q_X5_⟩ hb_ hon hoff
   refine ⟨_, rfl, fun K hK => ?_⟩
   have e26 : a.tmps[26]? = some (.agg #[.bool q0, .slice qu qb.length qp]) := by rw [ha]; exact putSel_on (e := (2, 26, .agg #[.bool q0, .slice qu qb.length qp])) 2 rfl rfl (hon 2 (by kernel_rfl)) rfl
   replace ha := am ha
   have je := am jQ
   have jg := am jR
   have jh := am jS
   have jf := am jT
   have ja := am jU
   have jb := am jV
   have jd := am jW
   have jc := am jX
   have HB := am Q_HB
   have jr := am (qc (hon 1 (by kernel_rfl)))
   refine goes_ Try.func13 (by kernel_rfl) rfl #[.agg #[.bool q0, .slice qu qb.length qp]] (by rfl) rfl rfl (by (simp only [List.map_toArray, List.map_cons, List.map_nil, Act.eval, Array.getD_eq_getD_getElem?, Option.getD_some, e26]; done)) ?_
   with_reducible refine (zelligeref04_Of.calls k q0 _ _ qb qC q3 _ ?side1 ?side2 A7.out).mono ?_
   (case side1 => exact (Kd.R_reads' jg.out).2.2)
   (case side2 => exact (Kd.R_reads' jg.out).2.1)
   rintro e Qw ⟨q2, rfl, ho0, hb⟩
   refine ⟨_, rfl, ?_⟩
   have n0_ := am (Kd.R_below je.out hb)
   have n1_ := am (Kd.R_below jg.out hb)
   have n2_ := am (Kd.R_below jh.out hb)
   have n3_ := am (Kd.R_below jf.out hb)
   have n4_ := am (Kd.R_elder' jr.out (Kd.R_base ho0) hb)
   have n5_ := am (Kd.R_lower (Kd.R_new' ho0 (Kd.R_lt jr.out)) (below_size HB.out))
   have n6_ := am (blk_below ja.out hb)
   have n7_ := am (blk_below jb.out hb)
   have n8_ := am (blk_below jd.out hb)
   have n9_ := am (blk_below jc.out hb)
   have n10_ := am (below_step HB.out hb)
   have z_BK702 := fun (h0_ : b 4 = true) (h1_ : b 6 = false) => (show Qw.heap[jl]? = some (.cells #[.int .i64 0, .slice none 0 0] 33 (0, 0)) from by exact (blk_below (g := jl) (o := .cells #[.int .i64 0, .slice none 0 0] 33 (0, 0)) (by exact (j5 h0_ h1_)) hb))
   have z_BK703 := fun (h0_ : b 5 = true) (h1_ : b 7 = false) => (show Qw.heap[jj]? = some (.cells #[.int .i64 0, .slice none 0 0] 33 (0, 0)) from by exact (blk_below (g := jj) (o := .cells #[.int .i64 0, .slice none 0 0] 33 (0, 0)) (by exact (j1 h0_ h1_)) hb))
   clear je
   clear jg
   clear jh
   clear jf
   clear jr
   clear ja
   clear jb
   clear jd
   clear jc
   clear HB
   have je := n0_
   have jg := n1_
   have jh := n2_
   have jf := n3_
   have jr := n4_
   have jL := n5_
   have ja := n6_
   have jb := n7_
   have jd := n8_
   have jc := n9_
   have HB := n10_
   clear n0_ n1_ n2_ n3_ n4_ n5_ n6_ n7_ n8_ n9_ n10_
   try clear hb
   try clear ho0
   refine hK.out _ _ ⟨q1, q2, jl, jj, m1_, (.agg #[.int .i64 qC, q2]), m4_, m5_, (by rw [ha.out]; exact putSel_upk 3 hb_ rfl rfl rfl), je.out, jg.out, jh.out, jf.out, ja.out, jb.out, jd.out, jc.out, HB.out, jJ, jK, fun _ => (by exact Kd.R_mono jr.out (fun _ hk => by grind)), fun _ => (by exact Kd.R_mono jL.out (fun _ hk => by grind)), z_BK702, j6, j7, js, jt, ju, jv, jw, jx, jy, jz, z_BK703, j8, j9, jA, jB, jC, jD, jE, jF, jG, jH, fun h0_ => absurd ((hoff 6 (by kernel_rfl)).symm.trans h0_) (by decide), fun h0_ => absurd ((hoff 7 (by kernel_rfl)).symm.trans h0_) (by decide), Q_X1_, fun _ => rfl, Q_X4_, Q_X5_⟩
  refine steps_cons ?_ ?_
  ·
   rintro b a w' ⟨q1, q2, jl, jj, m1_, m3_, m4_, m5_, ha, jQ, jR, jS, jT, jU, jV, jW, jX, Q_HB, jJ, jK, qc, qv, j5, j6, j7, js, jt, ju, jv, jw, jx, jy, jz, j1, j8, j9, jA, jB, jC, jD, jE, jF, jG, jH, jO, jY, Q_X1_, Q_X3_, Q_X4_, Q_X5_⟩ hb_ hon hoff
   refine ⟨_, rfl, fun K hK => ?_⟩
   replace ha := am ha
   have je := am jQ
   have jg := am jR
   have jh := am jS
   have jf := am jT
   have ja := am jU
   have jb := am jV
   have jd := am jW
   have jc := am jX
   have HB := am Q_HB
   refine box_step ?hg (N := 8) ?hd (cs := #[.int .i64 0, .slice none 0 0]) (t := 33) ?hr ?_; (case hd => rfl); (case hg => rfl); (case hr => (go_simp; done))
   intro jl hg ua hbox hb
   have n0_ := am (Kd.R_below je.out hb)
   have n1_ := am (Kd.R_below jg.out hb)
   have n2_ := am (Kd.R_below jh.out hb)
   have n3_ := am (Kd.R_below jf.out hb)
   have n4_ := am (blk_below ja.out hb)
   have n5_ := am (blk_below jb.out hb)
   have n6_ := am (blk_below jd.out hb)
   have n7_ := am (blk_below jc.out hb)
   have n8_ := am (below_step HB.out hb)
   have n9_ := am hbox
   have n10_ := am (gel hg HB.out)
   have n11_ := am (gel hg HB.out)
   have n12_ := am (nel hg ja.out)
   have n13_ := am (ner hg ja.out)
   have n14_ := am (nel hg jb.out)
   have n15_ := am (ner hg jb.out)
   have n16_ := am (nel hg jd.out)
   have n17_ := am (ner hg jd.out)
   have n18_ := am (nel hg jc.out)
   have n19_ := am (ner hg jc.out)
   have z_NB703_702 := fun (h0_ : up b 4 4 = true) (h1_ : up b 4 5 = true) => (show jj ≠ jl from by rw [hg]; cases hb15_ : b 7 with | false => exact Nat.ne_of_lt (blk_lt (j1 (by simpa [up] using h1_) hb15_)) | true => exact Nat.ne_of_lt (blk_lt (jY hb15_)))
   have z_NB702_703 := fun (h0_ : up b 4 4 = true) (h1_ : up b 4 5 = true) => (show jl ≠ jj from by rw [hg]; cases hb15_ : b 7 with | false => exact Nat.ne_of_gt (blk_lt (j1 (by simpa [up] using h1_) hb15_)) | true => exact Nat.ne_of_gt (blk_lt (jY hb15_)))
   have z_HO697 := fun (h0_ : b 1 = true) => (show Kd.R (Kd.int .i64) 3 ua w.heap.size (fun _ => True) q1 q4 from by exact (Kd.R_below (by exact (qc h0_)) hb))
   have z_HO701 := fun (h0_ : b 3 = true) => (show Kd.R (Kd.int .i64) 3 ua w.heap.size (fun _ => True) q2 q3 from by exact (Kd.R_below (by exact (qv h0_)) hb))
   have z_BK703 := fun (h0_ : b 5 = true) (h1_ : b 7 = false) => (show ua.heap[jj]? = some (.cells #[.int .i64 0, .slice none 0 0] 33 (0, 0)) from by exact (blk_below (g := jj) (o := .cells #[.int .i64 0, .slice none 0 0] 33 (0, 0)) (by exact (j1 h0_ h1_)) hb))
   clear je
   clear jg
   clear jh
   clear jf
   clear ja
   clear jb
   clear jd
   clear jc
   clear HB
   have je := n0_
   have jg := n1_
   have jh := n2_
   have jf := n3_
   have ja := n4_
   have jb := n5_
   have jd := n6_
   have jc := n7_
   have HB := n8_
   have jk := n9_
   have zE := n10_
   have zC := n11_
   have qq := n12_
   have qH := n13_
   have qe := n14_
   have qx := n15_
   have j3 := n16_
   have qr := n17_
   have j4 := n18_
   have qs := n19_
   clear n0_ n1_ n2_ n3_ n4_ n5_ n6_ n7_ n8_ n9_ n10_ n11_ n12_ n13_ n14_ n15_ n16_ n17_ n18_ n19_
   clear hb hbox hg
   refine hK.out _ _ ⟨q1, q2, jl, jj, m1_, m3_, (.pointer (some ⟨jl, 0, none⟩)), m5_, (by rw [ha.out]; exact putSel_upk 4 hb_ rfl rfl rfl), je.out, jg.out, jh.out, jf.out, ja.out, jb.out, jd.out, jc.out, HB.out, @z_NB703_702, @z_NB702_703, z_HO697, z_HO701, fun _ _ => jk.out, fun _ => zE.out, fun _ => zC.out, fun _ => qq.out, fun _ => qH.out, fun _ => qe.out, fun _ => qx.out, fun _ => j3.out, fun _ => qr.out, fun _ => j4.out, fun _ => qs.out, z_BK703, j8, j9, jA, jB, jC, jD, jE, jF, jG, jH, fun h0_ => absurd ((hoff 6 (by kernel_rfl)).symm.trans h0_) (by decide), fun h0_ => absurd ((hoff 7 (by kernel_rfl)).symm.trans h0_) (by decide), Q_X1_, Q_X3_, fun _ => rfl, Q_X5_⟩
  refine steps_cons ?_ ?_
  ·
   rintro b a w' ⟨q1, q2, jl, jj, m1_, m3_, m4_, m5_, ha, jQ, jR, jS, jT, jU, jV, jW, jX, Q_HB, jJ, jK, qc, qv, j5, j6, j7, js, jt, ju, jv, jw, jx, jy, jz, j1, j8, j9, jA, jB, jC, jD, jE, jF, jG, jH, jO, jY, Q_X1_, Q_X3_, Q_X4_, Q_X5_⟩ hb_ hon hoff
   refine ⟨_, rfl, fun K hK => ?_⟩
   replace ha := am ha
   have je := am jQ
   have jg := am jR
   have jh := am jS
   have jf := am jT
   have ja := am jU
   have jb := am jV
   have jd := am jW
   have jc := am jX
   have HB := am Q_HB
   refine box_step ?hg (N := 9) ?hd (cs := #[.int .i64 0, .slice none 0 0]) (t := 33) ?hr ?_; (case hd => rfl); (case hg => rfl); (case hr => (go_simp; done))
   intro jj hg ua hbox hb
   have n0_ := am (Kd.R_below je.out hb)
   have n1_ := am (Kd.R_below jg.out hb)
   have n2_ := am (Kd.R_below jh.out hb)
   have n3_ := am (Kd.R_below jf.out hb)
   have n4_ := am (blk_below ja.out hb)
   have n5_ := am (blk_below jb.out hb)
   have n6_ := am (blk_below jd.out hb)
   have n7_ := am (blk_below jc.out hb)
   have n8_ := am (below_step HB.out hb)
   have n9_ := am hbox
   have n10_ := am (gel hg HB.out)
   have n11_ := am (gel hg HB.out)
   have n12_ := am (nel hg ja.out)
   have n13_ := am (ner hg ja.out)
   have n14_ := am (nel hg jb.out)
   have n15_ := am (ner hg jb.out)
   have n16_ := am (nel hg jd.out)
   have n17_ := am (ner hg jd.out)
   have n18_ := am (nel hg jc.out)
   have n19_ := am (ner hg jc.out)
   have z_NB703_702 := fun (h0_ : up b 5 4 = true) (h1_ : up b 5 5 = true) => (show jj ≠ jl from by rw [hg]; cases hb15_ : b 6 with | false => exact Nat.ne_of_gt (blk_lt (j5 (by simpa [up] using h0_) hb15_)) | true => exact Nat.ne_of_gt (blk_lt (jO hb15_)))
   have z_NB702_703 := fun (h0_ : up b 5 4 = true) (h1_ : up b 5 5 = true) => (show jl ≠ jj from by rw [hg]; cases hb15_ : b 6 with | false => exact Nat.ne_of_lt (blk_lt (j5 (by simpa [up] using h0_) hb15_)) | true => exact Nat.ne_of_lt (blk_lt (jO hb15_)))
   have z_HO697 := fun (h0_ : b 1 = true) => (show Kd.R (Kd.int .i64) 3 ua w.heap.size (fun _ => True) q1 q4 from by exact (Kd.R_below (by exact (qc h0_)) hb))
   have z_HO701 := fun (h0_ : b 3 = true) => (show Kd.R (Kd.int .i64) 3 ua w.heap.size (fun _ => True) q2 q3 from by exact (Kd.R_below (by exact (qv h0_)) hb))
   have z_BK702 := fun (h0_ : b 4 = true) (h1_ : b 6 = false) => (show ua.heap[jl]? = some (.cells #[.int .i64 0, .slice none 0 0] 33 (0, 0)) from by exact (blk_below (g := jl) (o := .cells #[.int .i64 0, .slice none 0 0] 33 (0, 0)) (by exact (j5 h0_ h1_)) hb))
   clear je
   clear jg
   clear jh
   clear jf
   clear ja
   clear jb
   clear jd
   clear jc
   clear HB
   have je := n0_
   have jg := n1_
   have jh := n2_
   have jf := n3_
   have ja := n4_
   have jb := n5_
   have jd := n6_
   have jc := n7_
   have HB := n8_
   have ji := n9_
   have zF := n10_
   have zD := n11_
   have qf := n12_
   have qy := n13_
   have qg := n14_
   have qz := n15_
   have qh := n16_
   have qA := n17_
   have qi := n18_
   have qB := n19_
   clear n0_ n1_ n2_ n3_ n4_ n5_ n6_ n7_ n8_ n9_ n10_ n11_ n12_ n13_ n14_ n15_ n16_ n17_ n18_ n19_
   clear hb hbox hg
   refine hK.out _ _ ⟨q1, q2, jl, jj, m1_, m3_, m4_, (.pointer (some ⟨jj, 0, none⟩)), (by rw [ha.out]; exact putSel_upk 5 hb_ rfl rfl rfl), je.out, jg.out, jh.out, jf.out, ja.out, jb.out, jd.out, jc.out, HB.out, @z_NB703_702, @z_NB702_703, z_HO697, z_HO701, z_BK702, j6, j7, js, jt, ju, jv, jw, jx, jy, jz, fun _ _ => ji.out, fun _ => zF.out, fun _ => zD.out, fun _ => qf.out, fun _ => qy.out, fun _ => qg.out, fun _ => qz.out, fun _ => qh.out, fun _ => qA.out, fun _ => qi.out, fun _ => qB.out, fun h0_ => absurd ((hoff 6 (by kernel_rfl)).symm.trans h0_) (by decide), fun h0_ => absurd ((hoff 7 (by kernel_rfl)).symm.trans h0_) (by decide), Q_X1_, Q_X3_, Q_X4_, fun _ => rfl⟩
  refine steps_cons ?_ ?_
  ·
   rintro b a w' ⟨q1, q2, jl, jj, m1_, m3_, m4_, m5_, ha, jQ, jR, jS, jT, jU, jV, jW, jX, Q_HB, jJ, jK, qc, qv, j5, j6, j7, js, jt, ju, jv, jw, jx, jy, jz, j1, j8, j9, jA, jB, jC, jD, jE, jF, jG, jH, jO, jY, Q_X1_, Q_X3_, Q_X4_, Q_X5_⟩ hb_ hon hoff
   refine ⟨_, rfl, fun K hK => ?_⟩
   have e8 : a.tmps[8]? = some (m4_) := by rw [ha]; exact putSel_on (e := (4, 8, m4_)) 4 rfl rfl (hon 4 (by kernel_rfl)) rfl
   rw [Q_X4_ (hon 4 (by kernel_rfl))] at e8
   have e25 : a.tmps[25]? = some (m1_) := by rw [ha]; exact putSel_on (e := (1, 25, m1_)) 1 rfl rfl (hon 1 (by kernel_rfl)) rfl
   rw [Q_X1_ (hon 1 (by kernel_rfl))] at e25
   replace ha := am ha
   have je := am jQ
   have jg := am jR
   have jh := am jS
   have jf := am jT
   have ja := am jU
   have jb := am jV
   have jd := am jW
   have jc := am jX
   have HB := am Q_HB
   have qj := am (jJ (hon 4 (by kernel_rfl)) (hon 5 (by kernel_rfl)))
   have qk := am (jK (hon 4 (by kernel_rfl)) (hon 5 (by kernel_rfl)))
   have jr := am (qc (hon 1 (by kernel_rfl)))
   have jL := am (qv (hon 3 (by kernel_rfl)))
   have jk := am (j5 (hon 4 (by kernel_rfl)) hb_)
   have zE := am (j6 (hon 4 (by kernel_rfl)))
   have zC := am (j7 (hon 4 (by kernel_rfl)))
   have qq := am (js (hon 4 (by kernel_rfl)))
   have qH := am (jt (hon 4 (by kernel_rfl)))
   have qe := am (ju (hon 4 (by kernel_rfl)))
   have qx := am (jv (hon 4 (by kernel_rfl)))
   have j3 := am (jw (hon 4 (by kernel_rfl)))
   have qr := am (jx (hon 4 (by kernel_rfl)))
   have j4 := am (jy (hon 4 (by kernel_rfl)))
   have qs := am (jz (hon 4 (by kernel_rfl)))
   have ji := am (j1 (hon 5 (by kernel_rfl)) (hoff 7 (by kernel_rfl)))
   have zF := am (j8 (hon 5 (by kernel_rfl)))
   have zD := am (j9 (hon 5 (by kernel_rfl)))
   have qf := am (jA (hon 5 (by kernel_rfl)))
   have qy := am (jB (hon 5 (by kernel_rfl)))
   have qg := am (jC (hon 5 (by kernel_rfl)))
   have qz := am (jD (hon 5 (by kernel_rfl)))
   have qh := am (jE (hon 5 (by kernel_rfl)))
   have qA := am (jF (hon 5 (by kernel_rfl)))
   have qi := am (jG (hon 5 (by kernel_rfl)))
   have qB := am (jH (hon 5 (by kernel_rfl)))
   obtain ⟨zM, zN, eo49⟩ := Kd.R_slice jr.out
   (subst eo49)
   have Q0 : w'.cell? ⟨jl, 0, none⟩ = some (.int .i64 0) := (blk_cell jk.out 0).trans rfl
   have hfs48 := blk_frozen jk.out 0
   have hns48_0 := qq.out
   have hns48_1 := qe.out
   have hns48_2 := j3.out
   have hns48_3 := j4.out
   have hns48_5 := qj.out
   have hms48_0 := qH.out
   have hms48_1 := qx.out
   have hms48_2 := qr.out
   have hms48_3 := qs.out
   have hms48_5 := qk.out
   have Q1 : w'.cell? ⟨jl, 1, none⟩ = some (.slice none 0 0) := (blk_cell jk.out 1).trans rfl
   have hfs50 := blk_frozen jk.out 1
   have hns50_0 := qq.out
   have hns50_1 := qe.out
   have hns50_2 := j3.out
   have hns50_3 := j4.out
   have hns50_5 := qj.out
   have hms50_0 := qH.out
   have hms50_1 := qx.out
   have hms50_2 := qr.out
   have hms50_3 := qs.out
   have hms50_5 := qk.out
   refine skip_ (w1 := ?_) (by rfl) rfl ?_ ?_
   rotate_left
   ·
    go_simp
    rfl
   refine hK.out _ _ ⟨.slice zM q4.length zN, q2, jl, jj, m1_, m3_, m4_, m5_, (by rw [ha.out]; exact putSel_none (v := undef) rfl), (by exact Kd.R_mono (Kd.R_far (p := ⟨jl, 1, none⟩) (Kd.R_far (p := ⟨jl, 0, none⟩) (Kd.R_types je.out jk.out (by decide)) (fun _ hk => by exact hk.2) (.int .i64 q5)) (fun _ hk => by exact hk.2) (.slice zM q4.length zN)) (fun _ hk => by exact ⟨hk.1.1, ⟨hk.1.2.1, hk.1.2.2⟩⟩)), (by exact Kd.R_mono (Kd.R_far (p := ⟨jl, 1, none⟩) (Kd.R_far (p := ⟨jl, 0, none⟩) (Kd.R_types jg.out jk.out (by decide)) (fun _ hk => by exact hk.2) (.int .i64 q5)) (fun _ hk => by exact hk.2) (.slice zM q4.length zN)) (fun _ hk => by exact ⟨hk.1.1, ⟨hk.1.2.1, hk.1.2.2⟩⟩)), (by exact Kd.R_mono (Kd.R_far (p := ⟨jl, 1, none⟩) (Kd.R_far (p := ⟨jl, 0, none⟩) (Kd.R_types jh.out jk.out (by decide)) (fun _ hk => by exact hk.2) (.int .i64 q5)) (fun _ hk => by exact hk.2) (.slice zM q4.length zN)) (fun _ hk => by exact ⟨hk.1.1, ⟨hk.1.2.1, hk.1.2.2⟩⟩)), (by exact Kd.R_mono (Kd.R_far (p := ⟨jl, 1, none⟩) (Kd.R_far (p := ⟨jl, 0, none⟩) (Kd.R_types jf.out jk.out (by decide)) (fun _ hk => by exact hk.2) (.int .i64 q5)) (fun _ hk => by exact hk.2) (.slice zM q4.length zN)) (fun _ hk => by exact ⟨hk.1.1, ⟨hk.1.2.1, hk.1.2.2⟩⟩)), (by refine blk_far ?_ qq.out _; refine blk_far ?_ qq.out _; exact ja.out), (by refine blk_far ?_ qe.out _; refine blk_far ?_ qe.out _; exact jb.out), (by refine blk_far ?_ j3.out _; refine blk_far ?_ j3.out _; exact jd.out), (by refine blk_far ?_ j4.out _; refine blk_far ?_ j4.out _; exact jc.out), (by repeat ((with_reducible first | exact HB.out | refine below_set ?_ zC.out))), fun _ _ => qj.out, fun _ _ => qk.out, fun _ => (by exact Kd.R_mono (Kd.R_far (p := ⟨jl, 1, none⟩) (Kd.R_far (p := ⟨jl, 0, none⟩) (Kd.R_types jr.out jk.out (by decide)) (fun _ hk => by exact hk.2) (.int .i64 q5)) (fun _ hk => by exact hk.2) (.slice zM q4.length zN)) (fun _ hk => by exact hk.1)), fun _ => (by exact Kd.R_mono (Kd.R_far (p := ⟨jl, 1, none⟩) (Kd.R_far (p := ⟨jl, 0, none⟩) (Kd.R_types jL.out jk.out (by decide)) (fun _ hk => by exact hk.2) (.int .i64 q5)) (fun _ hk => by exact hk.2) (.slice zM q4.length zN)) (fun _ hk => by exact hk.1)), fun _ h1_ => absurd ((up_self b 6).symm.trans h1_) (by decide), fun _ => zE.out, fun _ => zC.out, fun _ => qq.out, fun _ => qH.out, fun _ => qe.out, fun _ => qx.out, fun _ => j3.out, fun _ => qr.out, fun _ => j4.out, fun _ => qs.out, fun _ _ => (by refine blk_far ?_ qj.out _; refine blk_far ?_ qj.out _; exact ji.out), fun _ => zF.out, fun _ => zD.out, fun _ => qf.out, fun _ => qy.out, fun _ => qg.out, fun _ => qz.out, fun _ => qh.out, fun _ => qA.out, fun _ => qi.out, fun _ => qB.out, fun _ => (by refine blk_put (cs := #[.int .i64 q5, .slice none 0 0]) ?_ 1 _ rfl; refine blk_put (cs := #[.int .i64 0, .slice none 0 0]) ?_ 0 _ rfl; exact jk.out), fun h0_ => absurd ((hoff 7 (by kernel_rfl)).symm.trans h0_) (by decide), Q_X1_, Q_X3_, Q_X4_, Q_X5_⟩
  refine steps_cons ?_ ?_
  ·
   rintro b a w' ⟨q1, q2, jl, jj, m1_, m3_, m4_, m5_, ha, jQ, jR, jS, jT, jU, jV, jW, jX, Q_HB, jJ, jK, qc, qv, j5, j6, j7, js, jt, ju, jv, jw, jx, jy, jz, j1, j8, j9, jA, jB, jC, jD, jE, jF, jG, jH, jO, jY, Q_X1_, Q_X3_, Q_X4_, Q_X5_⟩ hb_ hon hoff
   refine ⟨_, rfl, fun K hK => ?_⟩
   have e9 : a.tmps[9]? = some (m5_) := by rw [ha]; exact putSel_on (e := (5, 9, m5_)) 5 rfl rfl (hon 5 (by kernel_rfl)) rfl
   rw [Q_X5_ (hon 5 (by kernel_rfl))] at e9
   have e27 : a.tmps[27]? = some (m3_) := by rw [ha]; exact putSel_on (e := (3, 27, m3_)) 3 rfl rfl (hon 3 (by kernel_rfl)) rfl
   rw [Q_X3_ (hon 3 (by kernel_rfl))] at e27
   replace ha := am ha
   have je := am jQ
   have jg := am jR
   have jh := am jS
   have jf := am jT
   have ja := am jU
   have jb := am jV
   have jd := am jW
   have jc := am jX
   have HB := am Q_HB
   have qj := am (jJ (hon 4 (by kernel_rfl)) (hon 5 (by kernel_rfl)))
   have qk := am (jK (hon 4 (by kernel_rfl)) (hon 5 (by kernel_rfl)))
   have jr := am (qc (hon 1 (by kernel_rfl)))
   have jL := am (qv (hon 3 (by kernel_rfl)))
   have zE := am (j6 (hon 4 (by kernel_rfl)))
   have zC := am (j7 (hon 4 (by kernel_rfl)))
   have qq := am (js (hon 4 (by kernel_rfl)))
   have qH := am (jt (hon 4 (by kernel_rfl)))
   have qe := am (ju (hon 4 (by kernel_rfl)))
   have qx := am (jv (hon 4 (by kernel_rfl)))
   have j3 := am (jw (hon 4 (by kernel_rfl)))
   have qr := am (jx (hon 4 (by kernel_rfl)))
   have j4 := am (jy (hon 4 (by kernel_rfl)))
   have qs := am (jz (hon 4 (by kernel_rfl)))
   have ji := am (j1 (hon 5 (by kernel_rfl)) hb_)
   have zF := am (j8 (hon 5 (by kernel_rfl)))
   have zD := am (j9 (hon 5 (by kernel_rfl)))
   have qf := am (jA (hon 5 (by kernel_rfl)))
   have qy := am (jB (hon 5 (by kernel_rfl)))
   have qg := am (jC (hon 5 (by kernel_rfl)))
   have qz := am (jD (hon 5 (by kernel_rfl)))
   have qh := am (jE (hon 5 (by kernel_rfl)))
   have qA := am (jF (hon 5 (by kernel_rfl)))
   have qi := am (jG (hon 5 (by kernel_rfl)))
   have qB := am (jH (hon 5 (by kernel_rfl)))
   have jk := am (jO (hon 6 (by kernel_rfl)))
   obtain ⟨zO, zP, eo52⟩ := Kd.R_slice jL.out
   (subst eo52)
   have Q2 : w'.cell? ⟨jj, 0, none⟩ = some (.int .i64 0) := (blk_cell ji.out 0).trans rfl
   have hfs51 := blk_frozen ji.out 0
   have hns51_0 := qf.out
   have hns51_1 := qg.out
   have hns51_2 := qh.out
   have hns51_3 := qi.out
   have hns51_4 := qk.out
   have hms51_0 := qy.out
   have hms51_1 := qz.out
   have hms51_2 := qA.out
   have hms51_3 := qB.out
   have hms51_4 := qj.out
   have Q3 : w'.cell? ⟨jj, 1, none⟩ = some (.slice none 0 0) := (blk_cell ji.out 1).trans rfl
   have hfs53 := blk_frozen ji.out 1
   have hns53_0 := qf.out
   have hns53_1 := qg.out
   have hns53_2 := qh.out
   have hns53_3 := qi.out
   have hns53_4 := qk.out
   have hms53_0 := qy.out
   have hms53_1 := qz.out
   have hms53_2 := qA.out
   have hms53_3 := qB.out
   have hms53_4 := qj.out
   refine skip_ (w1 := ?_) (by rfl) rfl ?_ ?_
   rotate_left
   ·
    go_simp
    rfl
   refine hK.out _ _ ⟨q1, .slice zO q3.length zP, jl, jj, m1_, m3_, m4_, m5_, (by rw [ha.out]; exact putSel_none (v := undef) rfl), (by exact Kd.R_mono (Kd.R_far (p := ⟨jj, 1, none⟩) (Kd.R_far (p := ⟨jj, 0, none⟩) (Kd.R_types je.out ji.out (by decide)) (fun _ hk => by exact hk.2) (.int .i64 qC)) (fun _ hk => by exact hk.2) (.slice zO q3.length zP)) (fun _ hk => by exact ⟨hk.1.1, ⟨hk.1.2.1, hk.1.2.2⟩⟩)), (by exact Kd.R_mono (Kd.R_far (p := ⟨jj, 1, none⟩) (Kd.R_far (p := ⟨jj, 0, none⟩) (Kd.R_types jg.out ji.out (by decide)) (fun _ hk => by exact hk.2) (.int .i64 qC)) (fun _ hk => by exact hk.2) (.slice zO q3.length zP)) (fun _ hk => by exact ⟨hk.1.1, ⟨hk.1.2.1, hk.1.2.2⟩⟩)), (by exact Kd.R_mono (Kd.R_far (p := ⟨jj, 1, none⟩) (Kd.R_far (p := ⟨jj, 0, none⟩) (Kd.R_types jh.out ji.out (by decide)) (fun _ hk => by exact hk.2) (.int .i64 qC)) (fun _ hk => by exact hk.2) (.slice zO q3.length zP)) (fun _ hk => by exact ⟨hk.1.1, ⟨hk.1.2.1, hk.1.2.2⟩⟩)), (by exact Kd.R_mono (Kd.R_far (p := ⟨jj, 1, none⟩) (Kd.R_far (p := ⟨jj, 0, none⟩) (Kd.R_types jf.out ji.out (by decide)) (fun _ hk => by exact hk.2) (.int .i64 qC)) (fun _ hk => by exact hk.2) (.slice zO q3.length zP)) (fun _ hk => by exact ⟨hk.1.1, ⟨hk.1.2.1, hk.1.2.2⟩⟩)), (by refine blk_far ?_ qf.out _; refine blk_far ?_ qf.out _; exact ja.out), (by refine blk_far ?_ qg.out _; refine blk_far ?_ qg.out _; exact jb.out), (by refine blk_far ?_ qh.out _; refine blk_far ?_ qh.out _; exact jd.out), (by refine blk_far ?_ qi.out _; refine blk_far ?_ qi.out _; exact jc.out), (by repeat ((with_reducible first | exact HB.out | refine below_set ?_ zD.out))), fun _ _ => qj.out, fun _ _ => qk.out, fun _ => (by exact Kd.R_mono (Kd.R_far (p := ⟨jj, 1, none⟩) (Kd.R_far (p := ⟨jj, 0, none⟩) (Kd.R_types jr.out ji.out (by decide)) (fun _ hk => by exact hk.2) (.int .i64 qC)) (fun _ hk => by exact hk.2) (.slice zO q3.length zP)) (fun _ hk => by exact hk.1)), fun _ => (by exact Kd.R_mono (Kd.R_far (p := ⟨jj, 1, none⟩) (Kd.R_far (p := ⟨jj, 0, none⟩) (Kd.R_types jL.out ji.out (by decide)) (fun _ hk => by exact hk.2) (.int .i64 qC)) (fun _ hk => by exact hk.2) (.slice zO q3.length zP)) (fun _ hk => by exact hk.1)), fun _ h1_ => absurd ((hon 6 (by kernel_rfl)).symm.trans h1_) (by decide), fun _ => zE.out, fun _ => zC.out, fun _ => qq.out, fun _ => qH.out, fun _ => qe.out, fun _ => qx.out, fun _ => j3.out, fun _ => qr.out, fun _ => j4.out, fun _ => qs.out, fun _ h1_ => absurd ((up_self b 7).symm.trans h1_) (by decide), fun _ => zF.out, fun _ => zD.out, fun _ => qf.out, fun _ => qy.out, fun _ => qg.out, fun _ => qz.out, fun _ => qh.out, fun _ => qA.out, fun _ => qi.out, fun _ => qB.out, fun _ => (by refine blk_far ?_ qk.out _; refine blk_far ?_ qk.out _; exact jk.out), fun _ => (by refine blk_put (cs := #[.int .i64 qC, .slice none 0 0]) ?_ 1 _ rfl; refine blk_put (cs := #[.int .i64 0, .slice none 0 0]) ?_ 0 _ rfl; exact ji.out), Q_X1_, Q_X3_, Q_X4_, Q_X5_⟩
  exact steps_nil
 rintro b a ul hall ⟨q1, q2, jl, jj, m1_, m3_, m4_, m5_, ha, jQ, jR, jS, jT, jU, jV, jW, jX, Q_HB, jJ, jK, qc, qv, j5, j6, j7, js, jt, ju, jv, jw, jx, jy, jz, j1, j8, j9, jA, jB, jC, jD, jE, jF, jG, jH, jO, jY, Q_X1_, Q_X3_, Q_X4_, Q_X5_⟩
 clear ja jb jd jc HB je jg jh jf
 have hb0_ := hall 0 (by kernel_rfl)
 have hb1_ := hall 1 (by kernel_rfl)
 have hb2_ := hall 2 (by kernel_rfl)
 have hb3_ := hall 3 (by kernel_rfl)
 have hb4_ := hall 4 (by kernel_rfl)
 have hb5_ := hall 5 (by kernel_rfl)
 have hb6_ := hall 6 (by kernel_rfl)
 have hb7_ := hall 7 (by kernel_rfl)
 subst ha
 obtain rfl := Q_X1_ hb1_
 obtain rfl := Q_X3_ hb3_
 obtain rfl := Q_X4_ hb4_
 obtain rfl := Q_X5_ hb5_
 simp only [putSel, hb0_, hb1_, hb2_, hb3_, hb4_, hb5_, hb6_, hb7_, if_true, Act.put, sI_, s0_, s1_]
 have je := am jQ
 clear jQ
 have jg := am jR
 clear jR
 have jh := am jS
 clear jS
 have jf := am jT
 clear jT
 have ja := am jU
 clear jU
 have jb := am jV
 clear jV
 have jd := am jW
 clear jW
 have jc := am jX
 clear jX
 have HB := am Q_HB
 clear Q_HB
 have qj := am (jJ hb4_ hb5_)
 clear jJ
 have qk := am (jK hb4_ hb5_)
 clear jK
 have jr := am (qc hb1_)
 clear qc
 have jL := am (qv hb3_)
 clear qv
 clear j5
 have zE := am (j6 hb4_)
 clear j6
 have zC := am (j7 hb4_)
 clear j7
 have qq := am (js hb4_)
 clear js
 have qH := am (jt hb4_)
 clear jt
 have qe := am (ju hb4_)
 clear ju
 have qx := am (jv hb4_)
 clear jv
 have j3 := am (jw hb4_)
 clear jw
 have qr := am (jx hb4_)
 clear jx
 have j4 := am (jy hb4_)
 clear jy
 have qs := am (jz hb4_)
 clear jz
 clear j1
 have zF := am (j8 hb5_)
 clear j8
 have zD := am (j9 hb5_)
 clear j9
 have qf := am (jA hb5_)
 clear jA
 have qy := am (jB hb5_)
 clear jB
 have qg := am (jC hb5_)
 clear jC
 have qz := am (jD hb5_)
 clear jD
 have qh := am (jE hb5_)
 clear jE
 have qA := am (jF hb5_)
 clear jF
 have qi := am (jG hb5_)
 clear jG
 have qB := am (jH hb5_)
 clear jH
 have jk := am (jO hb6_)
 clear jO
 have ji := am (jY hb7_)
 clear jY
 clear hall hb0_ hb1_ hb2_ hb3_ hb4_ hb5_ hb6_ hb7_
 have Qx := qy.out
 have Qy := qf.out
 have Qz := qz.out
 have QA := qg.out
 have QB := qA.out
 have QC := qh.out
 have QD := qB.out
 have QE := qi.out
 have QF := qj.out
 have QG := qk.out
 have X0 : ul.cell? ⟨jj, 0, none⟩ = some (.int .i64 qC) := (blk_cell ji.out 0).trans rfl
 have X1 : ul.cell? ⟨jj, 1, none⟩ = some (q2) := (blk_cell ji.out 1).trans rfl
 have X2 := blk_frozen ji.out 0
 have X3 := blk_frozen ji.out 1
 have QH := j3.out
 have QI := qr.out
 have H := H'.out
 clear H'
 by_cases c8 : qC = 0
 ·
  rw [if_pos c8] at H
  have c8b0 : (qC == 0) = true := beq_iff_eq.mpr c8
  have c8b1 : (qC != 0) = false := bne_eq_false_iff_eq.mpr c8
  clear c8
  obtain ⟨zZ, A9, H⟩ := bindE H
  have H' := am H
  clear H
  have X4 : ul.cell? ⟨jI, 0, none⟩ = some (.bool qG) := (blk_cell jd.out 0).trans rfl
  have X5 : ul.cell? ⟨jI, 1, none⟩ = some (.slice ql j2.length qm) := (blk_cell jd.out 1).trans rfl
  have X6 := blk_frozen jd.out 0
  have X7 := blk_frozen jd.out 1
  have H := H'.out
  clear H'
  by_cases X8 : zZ = true
  ·
   subst X8
   rw [if_pos rfl] at H
   obtain ⟨z0, Q4, H⟩ := bindE H
   by_cases X9 : z0 = true
   ·
    subst X9
    rw [if_pos rfl] at H
    by_cases ui : zB = 3
    ·
     rw [if_pos ui] at H
     have c13b0 : (zB == 3) = true := beq_iff_eq.mpr ui
     have c13b1 : (zB != 3) = false := bne_eq_false_iff_eq.mpr ui
     clear ui
     obtain ⟨z1, Q5, H⟩ := bindE H
     obtain rfl := Option.some.inj H
     try go_wp2_with (first | ((with_reducible refine gate_callee (f := 14) rfl ?_); refine goesL_ (some 33) rfl rfl Try.func14 (by kernel_rfl) rfl #[.agg #[.bool qG, .slice ql j2.length qm], .agg #[.int .i64 0, .slice none 0 0]] rfl (by (try simp only [List.map_toArray, List.map_cons, List.map_nil]); rfl) ?_; (refine (zelligeref04_Same.calls k qG _ _ j2 0 _ _ ([] : List Int) true _ ?side1 ?side2 ?side3 ?side4 A9.out).mono ?_); (case side1 => exact (Kd.R_reads' jh.out).2.2); (case side2 => exact (Kd.R_reads' jh.out).2.1); (case side3 => exact Kd.C_nil _ _); (case side4 => exact Nat.le_refl _); rintro e QJ ⟨rfl, hb⟩; refine ⟨_, rfl, ?_⟩; replace je := am (Kd.R_below je.out hb); replace jg := am (Kd.R_below jg.out hb); replace jh := am (Kd.R_below jh.out hb); replace jf := am (Kd.R_below jf.out hb); replace jr := am (Kd.R_below jr.out hb); replace jL := am (Kd.R_below jL.out hb); replace ja := am (blk_below ja.out hb); replace jb := am (blk_below jb.out hb); replace jd := am (blk_below jd.out hb); replace jc := am (blk_below jc.out hb); replace jk := am (blk_below jk.out hb); replace ji := am (blk_below ji.out hb); replace HB := am (below_step HB.out hb); (try clear hb); have QK := j4.out; have QL := qs.out; have Ja : QJ.cell? ⟨jq, 0, none⟩ = some (.bool qw) := (blk_cell jc.out 0).trans rfl; have Jb : QJ.cell? ⟨jq, 1, none⟩ = some (.slice qn jZ.length qd) := (blk_cell jc.out 1).trans rfl; have Jc := blk_frozen jc.out 0; have Jd := blk_frozen jc.out 1) | (go_at_call 14; (refine (zelligeref04_Same.calls k qw _ _ jZ 0 _ _ ([] : List Int) true _ ?side1 ?side2 ?side3 ?side4 Q4.out).mono ?_); (case side1 => exact (Kd.R_reads' jf.out).2.2); (case side2 => exact (Kd.R_reads' jf.out).2.1); (case side3 => exact Kd.C_nil _ _); (case side4 => exact Nat.le_refl _); rintro e Zk ⟨rfl, hb⟩; replace je := am (Kd.R_below je.out hb); replace jg := am (Kd.R_below jg.out hb); replace jh := am (Kd.R_below jh.out hb); replace jf := am (Kd.R_below jf.out hb); replace jr := am (Kd.R_below jr.out hb); replace jL := am (Kd.R_below jL.out hb); replace ja := am (blk_below ja.out hb); replace jb := am (blk_below jb.out hb); replace jd := am (blk_below jd.out hb); replace jc := am (blk_below jc.out hb); replace jk := am (blk_below jk.out hb); replace ji := am (blk_below ji.out hb); replace HB := am (below_step HB.out hb); (try clear hb)) | (go_at_call 15; (with_reducible refine (zelligelaw04_lives.calls k  z1 _ Q5.out).mono ?_); rintro e Zl ⟨rfl, hb⟩; replace je := am (Kd.R_below je.out hb); replace jg := am (Kd.R_below jg.out hb); replace jh := am (Kd.R_below jh.out hb); replace jf := am (Kd.R_below jf.out hb); replace jr := am (Kd.R_below jr.out hb); replace jL := am (Kd.R_below jL.out hb); replace ja := am (blk_below ja.out hb); replace jb := am (blk_below jb.out hb); replace jd := am (blk_below jd.out hb); replace jc := am (blk_below jc.out hb); replace jk := am (blk_below jk.out hb); replace ji := am (blk_below ji.out hb); replace HB := am (below_step HB.out hb); (try clear hb)))
     go_ret
     exact ⟨by rfl, by with_reducible exact HB.out⟩
    ·
     rw [if_neg ui] at H
     have c13b0 : (zB == 3) = false := beq_eq_false_iff_ne.mpr ui
     have c13b1 : (zB != 3) = true := bne_iff_ne.mpr ui
     exact absurd (Option.some.inj (H.trans (congrArg some hT.out))) (by decide)
   ·
    replace X9 := Bool.eq_false_iff.mpr X9
    subst X9
    rw [if_neg (show ¬ (false = true) by decide)] at H
    exact absurd (Option.some.inj (H.trans (congrArg some hT.out))) (by decide)
  ·
   replace X8 := Bool.eq_false_iff.mpr X8
   subst X8
   rw [if_neg (show ¬ (false = true) by decide)] at H
   exact absurd (Option.some.inj (H.trans (congrArg some hT.out))) (by decide)
 ·
  rw [if_neg c8] at H
  have c8b0 : (qC == 0) = false := beq_eq_false_iff_ne.mpr c8
  have c8b1 : (qC != 0) = true := bne_iff_ne.mpr c8
  obtain ⟨⟨qD, qI, qE, qF⟩, QM, H⟩ := bindE H
  dsimp only at H
  obtain ⟨ze, QN, H⟩ := bindE H
  obtain ⟨z2, QO, H⟩ := bindE H
  have H' := am H
  clear H
  have Jg := qx.out
  have Jh := qe.out
  have Ji := qr.out
  have Jj := j3.out
  have Jk := qs.out
  have Jl := j4.out
  have uu : ul.cell? ⟨jl, 0, none⟩ = some (.int .i64 q5) := (blk_cell jk.out 0).trans rfl
  have uv : ul.cell? ⟨jl, 1, none⟩ = some (q1) := (blk_cell jk.out 1).trans rfl
  have uw := blk_frozen jk.out 0
  have ux := blk_frozen jk.out 1
  obtain ⟨zx, zy, eo128⟩ := Kd.R_slice jr.out
  subst eo128
  obtain ⟨zz, zA, eo129⟩ := Kd.R_slice jL.out
  subst eo129
  have H := H'.out
  clear H'
  by_cases Je : z2 = true
  ·
   subst Je
   rw [if_pos rfl] at H
   obtain ⟨z3, QP, H⟩ := bindE H
   by_cases Jf : z3 = true
   ·
    subst Jf
    rw [if_pos rfl] at H
    by_cases uj : zB = 0
    ·
     rw [if_pos uj] at H
     have c73b0 : (zB == 0) = true := beq_iff_eq.mpr uj
     have c73b1 : (zB != 0) = false := bne_eq_false_iff_eq.mpr uj
     clear uj
     by_cases uk : ze = 0
     ·
      rw [if_pos uk] at H
      have c74b0 : (ze == 0) = true := beq_iff_eq.mpr uk
      have c74b1 : (ze != 0) = false := bne_eq_false_iff_eq.mpr uk
      clear uk
      obtain ⟨zK, Q6, H⟩ := bindE H
      by_cases um : zK < 0
      ·
       rw [if_pos um] at H
       have c76b0 : decide (zK < 0) = true := decide_eq_true um
       clear um
       obtain ⟨z4, Q7, H⟩ := bindE H
       obtain rfl := Option.some.inj H
       try go_wp2_with (first | ((with_reducible refine gate_callee (f := 16) rfl ?_); refine goesL_ (some 49) rfl rfl Try.func16 (by kernel_rfl) rfl #[.agg #[.int .i64 q5, .slice zx q4.length zy], .agg #[.int .i64 qC, .slice zz q3.length zA]] rfl (by (try simp only [List.map_toArray, List.map_cons, List.map_nil]); rfl) ?_; (with_reducible refine (zelligeref04_Floor.calls k q5 (fun k_ => some k_ = (.slice zx q4.length zy : Value).ownBlock) _ _ q4 qC _ _ q3 qD qI qE qF _ ?side1 ?side2 ?side3 QM.out).mono ?_); (case side1 => exact Kd.R_V (Kd.R_tight rfl (Kd.R_types (Kd.R_types (Kd.R_types (Kd.R_types (Kd.R_types (Kd.R_types (Kd.R_apart' (Kd.R_apart' (Kd.R_apart' (Kd.R_apart' (jr.out) (Kd.R_typed je.out) (by decide)) (Kd.R_typed jg.out) (by decide)) (Kd.R_typed jh.out) (by decide)) (Kd.R_typed jf.out) (by decide)) ja.out (by decide)) jb.out (by decide)) jd.out (by decide)) jc.out (by decide)) jk.out (by decide)) ji.out (by decide)))); (case side2 => exact (Kd.R_reads' jL.out).2.2); (case side3 => exact (Kd.R_reads' jL.out).2.1); rintro e Q8 ⟨Jm, Jn, rfl, ho0, ho1, hb⟩; refine ⟨_, rfl, ?_⟩; replace jL := am (Kd.R_below jL.out hb); have Z0_ := (Kd.R_types (Kd.R_types (Kd.R_types (Kd.R_types (Kd.R_types (Kd.R_types (Kd.R_apart' (Kd.R_apart' (Kd.R_apart' (Kd.R_apart' (jr.out) (Kd.R_typed je.out) (by decide)) (Kd.R_typed jg.out) (by decide)) (Kd.R_typed jh.out) (by decide)) (Kd.R_typed jf.out) (by decide)) ja.out (by decide)) jb.out (by decide)) jd.out (by decide)) jc.out (by decide)) jk.out (by decide)) ji.out (by decide)); have j0 := am (Kd.V_lower (Kd.V_mono (ok' := fun k_ => some k_ ≠ (.slice qt qa.length qo : Value).ownBlock ∧ some k_ ≠ (.slice qu qb.length qp : Value).ownBlock ∧ some k_ ≠ (.slice ql j2.length qm : Value).ownBlock ∧ some k_ ≠ (.slice qn jZ.length qd : Value).ownBlock ∧ True ∧ k_ ≠ jM ∧ k_ ≠ jN ∧ k_ ≠ jI ∧ k_ ≠ jq ∧ k_ ≠ jl ∧ k_ ≠ jj) ho0 (fun k_ hk_ => ⟨Or.elim hk_ (fun hs_ => (Z0_.1 k_ hs_.symm).1.1.1.1.1.1.1.1.1.2) (fun hn_ => (Kd.fresh' (Kd.R_lt je.out) k_ hn_)), Or.elim hk_ (fun hs_ => (Z0_.1 k_ hs_.symm).1.1.1.1.1.1.1.1.2) (fun hn_ => (Kd.fresh' (Kd.R_lt jg.out) k_ hn_)), Or.elim hk_ (fun hs_ => (Z0_.1 k_ hs_.symm).1.1.1.1.1.1.1.2) (fun hn_ => (Kd.fresh' (Kd.R_lt jh.out) k_ hn_)), Or.elim hk_ (fun hs_ => (Z0_.1 k_ hs_.symm).1.1.1.1.1.1.2) (fun hn_ => (Kd.fresh' (Kd.R_lt jf.out) k_ hn_)), trivial, Or.elim hk_ (fun hs_ => (Z0_.1 k_ hs_.symm).1.1.1.1.1.2) (fun hn_ => (Kd.freshB ja.out k_ hn_)), Or.elim hk_ (fun hs_ => (Z0_.1 k_ hs_.symm).1.1.1.1.2) (fun hn_ => (Kd.freshB jb.out k_ hn_)), Or.elim hk_ (fun hs_ => (Z0_.1 k_ hs_.symm).1.1.1.2) (fun hn_ => (Kd.freshB jd.out k_ hn_)), Or.elim hk_ (fun hs_ => (Z0_.1 k_ hs_.symm).1.1.2) (fun hn_ => (Kd.freshB jc.out k_ hn_)), Or.elim hk_ (fun hs_ => (Z0_.1 k_ hs_.symm).1.2) (fun hn_ => (Kd.freshB jk.out k_ hn_)), Or.elim hk_ (fun hs_ => (Z0_.1 k_ hs_.symm).2) (fun hn_ => (Kd.freshB ji.out k_ hn_))⟩)) (below_size HB.out)); clear Z0_; have Z0_ := (Kd.R_types (Kd.R_types (Kd.R_types (Kd.R_types (Kd.R_types (Kd.R_types (Kd.R_apart' (Kd.R_apart' (Kd.R_apart' (Kd.R_apart' (jr.out) (Kd.R_typed je.out) (by decide)) (Kd.R_typed jg.out) (by decide)) (Kd.R_typed jh.out) (by decide)) (Kd.R_typed jf.out) (by decide)) ja.out (by decide)) jb.out (by decide)) jd.out (by decide)) jc.out (by decide)) jk.out (by decide)) ji.out (by decide)); have jP := am (Kd.V_lower (Kd.V_mono (ok' := fun k_ => some k_ ≠ (.slice qt qa.length qo : Value).ownBlock ∧ some k_ ≠ (.slice qu qb.length qp : Value).ownBlock ∧ some k_ ≠ (.slice ql j2.length qm : Value).ownBlock ∧ some k_ ≠ (.slice qn jZ.length qd : Value).ownBlock ∧ True ∧ k_ ≠ jM ∧ k_ ≠ jN ∧ k_ ≠ jI ∧ k_ ≠ jq ∧ k_ ≠ jl ∧ k_ ≠ jj) ho1 (fun k_ hk_ => ⟨Or.elim hk_ (fun hs_ => (Z0_.1 k_ hs_.symm).1.1.1.1.1.1.1.1.1.2) (fun hn_ => (Kd.fresh' (Kd.R_lt je.out) k_ hn_)), Or.elim hk_ (fun hs_ => (Z0_.1 k_ hs_.symm).1.1.1.1.1.1.1.1.2) (fun hn_ => (Kd.fresh' (Kd.R_lt jg.out) k_ hn_)), Or.elim hk_ (fun hs_ => (Z0_.1 k_ hs_.symm).1.1.1.1.1.1.1.2) (fun hn_ => (Kd.fresh' (Kd.R_lt jh.out) k_ hn_)), Or.elim hk_ (fun hs_ => (Z0_.1 k_ hs_.symm).1.1.1.1.1.1.2) (fun hn_ => (Kd.fresh' (Kd.R_lt jf.out) k_ hn_)), trivial, Or.elim hk_ (fun hs_ => (Z0_.1 k_ hs_.symm).1.1.1.1.1.2) (fun hn_ => (Kd.freshB ja.out k_ hn_)), Or.elim hk_ (fun hs_ => (Z0_.1 k_ hs_.symm).1.1.1.1.2) (fun hn_ => (Kd.freshB jb.out k_ hn_)), Or.elim hk_ (fun hs_ => (Z0_.1 k_ hs_.symm).1.1.1.2) (fun hn_ => (Kd.freshB jd.out k_ hn_)), Or.elim hk_ (fun hs_ => (Z0_.1 k_ hs_.symm).1.1.2) (fun hn_ => (Kd.freshB jc.out k_ hn_)), Or.elim hk_ (fun hs_ => (Z0_.1 k_ hs_.symm).1.2) (fun hn_ => (Kd.freshB jk.out k_ hn_)), Or.elim hk_ (fun hs_ => (Z0_.1 k_ hs_.symm).2) (fun hn_ => (Kd.freshB ji.out k_ hn_))⟩)) (below_size HB.out)); clear Z0_; replace je := am (Kd.R_below je.out hb); replace jg := am (Kd.R_below jg.out hb); replace jh := am (Kd.R_below jh.out hb); replace jf := am (Kd.R_below jf.out hb); replace jr := am (Kd.R_below jr.out hb); replace ja := am (blk_below ja.out hb); replace jb := am (blk_below jb.out hb); replace jd := am (blk_below jd.out hb); replace jc := am (blk_below jc.out hb); replace jk := am (blk_below jk.out hb); replace ji := am (blk_below ji.out hb); replace HB := am (below_step HB.out hb); (try clear hb); (try clear ho0); (try clear ho1)) | ((with_reducible refine gate_dst (N := 10) rfl ?_); refine box_event ?hg (N := 10) ?hd (cs := #[.int .i64 0, .slice none 0 0]) (t := 33) ?hr ?_; (case hd => rfl); (case hg => rfl); (case hr => (go_simp; done)); intro jn hg Q9 hbox hb; replace je := am (Kd.R_below je.out hb); replace jg := am (Kd.R_below jg.out hb); replace jh := am (Kd.R_below jh.out hb); replace jf := am (Kd.R_below jf.out hb); replace jr := am (Kd.R_below jr.out hb); replace jL := am (Kd.R_below jL.out hb); replace j0 := am (Kd.V_below (Kd.V_elderB j0.out jn (Nat.le_of_eq hg.symm)) hb); replace jP := am (Kd.V_below (Kd.V_elderB jP.out jn (Nat.le_of_eq hg.symm)) hb); have jo := am hbox; have uy := am (gel hg HB.out); have z8 := am (gel hg HB.out); replace HB := am (below_step HB.out hb); have qL := am (nel hg ja.out); have zl := am (ner hg ja.out); replace ja := am (blk_below ja.out hb); have qM := am (nel hg jb.out); have zm := am (ner hg jb.out); replace jb := am (blk_below jb.out hb); have qN := am (nel hg jd.out); have zn := am (ner hg jd.out); replace jd := am (blk_below jd.out hb); have qO := am (nel hg jc.out); have zo := am (ner hg jc.out); replace jc := am (blk_below jc.out hb); have qP := am (nel hg jk.out); have zp := am (ner hg jk.out); replace jk := am (blk_below jk.out hb); have qQ := am (nel hg ji.out); have zq := am (ner hg ji.out); replace ji := am (blk_below ji.out hb); clear hb hbox hg) | ((with_reducible refine gate_dst (N := 11) rfl ?_); refine box_event ?hg (N := 11) ?hd (cs := #[.int .i64 0, .slice none 0 0]) (t := 33) ?hr ?_; (case hd => rfl); (case hg => rfl); (case hr => (go_simp; done)); intro jm hg zW hbox hb; replace je := am (Kd.R_below je.out hb); replace jg := am (Kd.R_below jg.out hb); replace jh := am (Kd.R_below jh.out hb); replace jf := am (Kd.R_below jf.out hb); replace jr := am (Kd.R_below jr.out hb); replace jL := am (Kd.R_below jL.out hb); replace j0 := am (Kd.V_below (Kd.V_elderB j0.out jm (Nat.le_of_eq hg.symm)) hb); replace jP := am (Kd.V_below (Kd.V_elderB jP.out jm (Nat.le_of_eq hg.symm)) hb); have jp := am hbox; have uz := am (gel hg HB.out); have z9 := am (gel hg HB.out); replace HB := am (below_step HB.out hb); have qR := am (nel hg ja.out); have zr := am (ner hg ja.out); replace ja := am (blk_below ja.out hb); have qS := am (nel hg jb.out); have zs := am (ner hg jb.out); replace jb := am (blk_below jb.out hb); have qT := am (nel hg jd.out); have zt := am (ner hg jd.out); replace jd := am (blk_below jd.out hb); have qU := am (nel hg jc.out); have zu := am (ner hg jc.out); replace jc := am (blk_below jc.out hb); have qV := am (nel hg jk.out); have zv := am (ner hg jk.out); replace jk := am (blk_below jk.out hb); have qW := am (nel hg ji.out); have zw := am (ner hg ji.out); replace ji := am (blk_below ji.out hb); have qX := am (nel hg jo.out); have qY := am (ner hg jo.out); replace jo := am (blk_below jo.out hb); clear hb hbox hg; have Jo := zl.out; have Jp := qL.out; have Jq := zm.out; have Jr := qM.out; have Js := zn.out; have Jt := qN.out; have Ju := zo.out; have Jv := qO.out; have Jw := zp.out; have Jx := qP.out; have Jy := zq.out; have Jz := qQ.out; have JA := qX.out; have JB := qY.out; have uA : zW.cell? ⟨jn, 0, none⟩ = some (.int .i64 0) := (blk_cell jo.out 0).trans rfl; have uB : zW.cell? ⟨jn, 1, none⟩ = some (.slice none 0 0) := (blk_cell jo.out 1).trans rfl; have uC := blk_frozen jo.out 0; have uD := blk_frozen jo.out 1; obtain ⟨q6, q7, eo141⟩ := Kd.V_slice j0.out; subst eo141; have JC := zr.out; have JD := qR.out; have JE := zs.out; have JF := qS.out; have JG := zt.out; have JH := qT.out; have JI := zu.out; have JJ := qU.out; have JK := zv.out; have JL := qV.out; have JM := zw.out; have JN := qW.out; have uE : zW.cell? ⟨jm, 0, none⟩ = some (.int .i64 0) := (blk_cell jp.out 0).trans rfl; have uF : zW.cell? ⟨jm, 1, none⟩ = some (.slice none 0 0) := (blk_cell jp.out 1).trans rfl; have uG := blk_frozen jp.out 0; have uH := blk_frozen jp.out 1; obtain ⟨q8, q9, eo149⟩ := Kd.V_slice jP.out; subst eo149; have uI : zW.cell? ⟨jq, 0, none⟩ = some (.bool qw) := (blk_cell jc.out 0).trans rfl; have uJ : zW.cell? ⟨jq, 1, none⟩ = some (.slice qn jZ.length qd) := (blk_cell jc.out 1).trans rfl; have uK := blk_frozen jc.out 0; have uL := blk_frozen jc.out 1) | ((with_reducible refine gate_callee (f := 17) rfl ?_); refine goesL_ (some 53) rfl rfl Try.func17 (by kernel_rfl) rfl #[.agg #[.bool qw, .slice qn jZ.length qd]] rfl (by (try simp only [List.map_toArray, List.map_cons, List.map_nil]); rfl) ?_; (with_reducible refine (whole_Sign.calls k qw _ _ jZ ze _ ?side1 ?side2 QN.out).mono ?_); (case side1 => refine (Kd.R_reads' (e := 78) (base := w.heap.size) (ok := fun k_ => (some k_ ≠ (.slice qt qa.length qo : Value).ownBlock ∧ (some k_ ≠ (.slice qu qb.length qp : Value).ownBlock ∧ some k_ ≠ (.slice ql j2.length qm : Value).ownBlock))) (n := jZ.length) (c := qd) ?_).2.2; exact (by exact (Kd.R_mono (Kd.R_mono (Kd.R_far (p := ⟨jm, 1, none⟩) (Kd.R_far (p := ⟨jm, 0, none⟩) (Kd.R_far (p := ⟨jn, 1, none⟩) (Kd.R_far (p := ⟨jn, 0, none⟩) (Kd.R_types (Kd.R_types jf.out jo.out (by decide)) jp.out (by decide)) (fun _ hk => by exact hk.1.2) (.int .i64 qD)) (fun _ hk => by exact hk.1.2) (.slice q6 qI.length q7)) (fun _ hk => by exact hk.2) (.int .i64 qE)) (fun _ hk => by exact hk.2) (.slice q8 qF.length q9)) (fun _ h_ => h_.1)) (fun _ h_ => h_.1)))); (case side2 => exact (Kd.R_reads' jf.out).2.1); rintro e ub ⟨rfl, hb⟩; refine ⟨_, rfl, ?_⟩; replace je := am (Kd.R_below (by exact (Kd.R_mono (Kd.R_mono (Kd.R_far (p := ⟨jm, 1, none⟩) (Kd.R_far (p := ⟨jm, 0, none⟩) (Kd.R_far (p := ⟨jn, 1, none⟩) (Kd.R_far (p := ⟨jn, 0, none⟩) (Kd.R_types (Kd.R_types je.out jo.out (by decide)) jp.out (by decide)) (fun _ hk => by exact hk.1.2) (.int .i64 qD)) (fun _ hk => by exact hk.1.2) (.slice q6 qI.length q7)) (fun _ hk => by exact hk.2) (.int .i64 qE)) (fun _ hk => by exact hk.2) (.slice q8 qF.length q9)) (fun _ h_ => h_.1)) (fun _ h_ => h_.1))) hb); replace jg := am (Kd.R_below (by exact (Kd.R_mono (Kd.R_mono (Kd.R_far (p := ⟨jm, 1, none⟩) (Kd.R_far (p := ⟨jm, 0, none⟩) (Kd.R_far (p := ⟨jn, 1, none⟩) (Kd.R_far (p := ⟨jn, 0, none⟩) (Kd.R_types (Kd.R_types jg.out jo.out (by decide)) jp.out (by decide)) (fun _ hk => by exact hk.1.2) (.int .i64 qD)) (fun _ hk => by exact hk.1.2) (.slice q6 qI.length q7)) (fun _ hk => by exact hk.2) (.int .i64 qE)) (fun _ hk => by exact hk.2) (.slice q8 qF.length q9)) (fun _ h_ => h_.1)) (fun _ h_ => h_.1))) hb); replace jh := am (Kd.R_below (by exact (Kd.R_mono (Kd.R_mono (Kd.R_far (p := ⟨jm, 1, none⟩) (Kd.R_far (p := ⟨jm, 0, none⟩) (Kd.R_far (p := ⟨jn, 1, none⟩) (Kd.R_far (p := ⟨jn, 0, none⟩) (Kd.R_types (Kd.R_types jh.out jo.out (by decide)) jp.out (by decide)) (fun _ hk => by exact hk.1.2) (.int .i64 qD)) (fun _ hk => by exact hk.1.2) (.slice q6 qI.length q7)) (fun _ hk => by exact hk.2) (.int .i64 qE)) (fun _ hk => by exact hk.2) (.slice q8 qF.length q9)) (fun _ h_ => h_.1)) (fun _ h_ => h_.1))) hb); replace jf := am (Kd.R_below (by exact (Kd.R_mono (Kd.R_mono (Kd.R_far (p := ⟨jm, 1, none⟩) (Kd.R_far (p := ⟨jm, 0, none⟩) (Kd.R_far (p := ⟨jn, 1, none⟩) (Kd.R_far (p := ⟨jn, 0, none⟩) (Kd.R_types (Kd.R_types jf.out jo.out (by decide)) jp.out (by decide)) (fun _ hk => by exact hk.1.2) (.int .i64 qD)) (fun _ hk => by exact hk.1.2) (.slice q6 qI.length q7)) (fun _ hk => by exact hk.2) (.int .i64 qE)) (fun _ hk => by exact hk.2) (.slice q8 qF.length q9)) (fun _ h_ => h_.1)) (fun _ h_ => h_.1))) hb); replace jr := am (Kd.R_below (by exact (Kd.R_mono (Kd.R_mono (Kd.R_far (p := ⟨jm, 1, none⟩) (Kd.R_far (p := ⟨jm, 0, none⟩) (Kd.R_far (p := ⟨jn, 1, none⟩) (Kd.R_far (p := ⟨jn, 0, none⟩) (Kd.R_types (Kd.R_types jr.out jo.out (by decide)) jp.out (by decide)) (fun _ hk => by exact hk.1.2) (.int .i64 qD)) (fun _ hk => by exact hk.1.2) (.slice q6 qI.length q7)) (fun _ hk => by exact hk.2) (.int .i64 qE)) (fun _ hk => by exact hk.2) (.slice q8 qF.length q9)) (fun _ h_ => h_.1)) (fun _ h_ => h_.1))) hb); replace jL := am (Kd.R_below (by exact (Kd.R_mono (Kd.R_mono (Kd.R_far (p := ⟨jm, 1, none⟩) (Kd.R_far (p := ⟨jm, 0, none⟩) (Kd.R_far (p := ⟨jn, 1, none⟩) (Kd.R_far (p := ⟨jn, 0, none⟩) (Kd.R_types (Kd.R_types jL.out jo.out (by decide)) jp.out (by decide)) (fun _ hk => by exact hk.1.2) (.int .i64 qD)) (fun _ hk => by exact hk.1.2) (.slice q6 qI.length q7)) (fun _ hk => by exact hk.2) (.int .i64 qE)) (fun _ hk => by exact hk.2) (.slice q8 qF.length q9)) (fun _ h_ => h_.1)) (fun _ h_ => h_.1))) hb); replace j0 := am (Kd.V_below (by exact (Kd.V_mono (Kd.V_mono (Kd.V_far (p := ⟨jm, 1, none⟩) (Kd.V_far (p := ⟨jm, 0, none⟩) (Kd.V_far (p := ⟨jn, 1, none⟩) (Kd.V_far (p := ⟨jn, 0, none⟩) (Kd.V_mono (Kd.V_mono j0.out (fun k_ hk => (⟨hk, hk.1.2⟩ : _ ∧ k_ ≠ jn))) (fun k_ hk => (⟨hk, hk.1.2⟩ : _ ∧ k_ ≠ jm))) (fun _ hk => by exact hk.1.2) (.int .i64 qD)) (fun _ hk => by exact hk.1.2) (.slice q6 qI.length q7)) (fun _ hk => by exact hk.2) (.int .i64 qE)) (fun _ hk => by exact hk.2) (.slice q8 qF.length q9)) (fun _ h_ => h_.1)) (fun _ h_ => h_.1))) hb); replace jP := am (Kd.V_below (by exact (Kd.V_mono (Kd.V_mono (Kd.V_far (p := ⟨jm, 1, none⟩) (Kd.V_far (p := ⟨jm, 0, none⟩) (Kd.V_far (p := ⟨jn, 1, none⟩) (Kd.V_far (p := ⟨jn, 0, none⟩) (Kd.V_mono (Kd.V_mono jP.out (fun k_ hk => (⟨hk, hk.1.2⟩ : _ ∧ k_ ≠ jn))) (fun k_ hk => (⟨hk, hk.1.2⟩ : _ ∧ k_ ≠ jm))) (fun _ hk => by exact hk.1.2) (.int .i64 qD)) (fun _ hk => by exact hk.1.2) (.slice q6 qI.length q7)) (fun _ hk => by exact hk.2) (.int .i64 qE)) (fun _ hk => by exact hk.2) (.slice q8 qF.length q9)) (fun _ h_ => h_.1)) (fun _ h_ => h_.1))) hb); replace ja := am (blk_below (g := jM) (o := .cells #[.bool qZ, .slice qt qa.length qo] 25 (0, 0)) (by refine blk_far ?_ qR.out _; refine blk_far ?_ qR.out _; refine blk_far ?_ qL.out _; refine blk_far ?_ qL.out _; exact ja.out) hb); replace jb := am (blk_below (g := jN) (o := .cells #[.bool q0, .slice qu qb.length qp] 25 (0, 0)) (by refine blk_far ?_ qS.out _; refine blk_far ?_ qS.out _; refine blk_far ?_ qM.out _; refine blk_far ?_ qM.out _; exact jb.out) hb); replace jd := am (blk_below (g := jI) (o := .cells #[.bool qG, .slice ql j2.length qm] 25 (0, 0)) (by refine blk_far ?_ qT.out _; refine blk_far ?_ qT.out _; refine blk_far ?_ qN.out _; refine blk_far ?_ qN.out _; exact jd.out) hb); replace jc := am (blk_below (g := jq) (o := .cells #[.bool qw, .slice qn jZ.length qd] 25 (0, 0)) (by refine blk_far ?_ qU.out _; refine blk_far ?_ qU.out _; refine blk_far ?_ qO.out _; refine blk_far ?_ qO.out _; exact jc.out) hb); replace jk := am (blk_below (g := jl) (o := .cells #[.int .i64 q5, .slice zx q4.length zy] 33 (0, 0)) (by refine blk_far ?_ qV.out _; refine blk_far ?_ qV.out _; refine blk_far ?_ qP.out _; refine blk_far ?_ qP.out _; exact jk.out) hb); replace ji := am (blk_below (g := jj) (o := .cells #[.int .i64 qC, .slice zz q3.length zA] 33 (0, 0)) (by refine blk_far ?_ qW.out _; refine blk_far ?_ qW.out _; refine blk_far ?_ qQ.out _; refine blk_far ?_ qQ.out _; exact ji.out) hb); replace jo := am (blk_below (g := jn) (o := .cells #[.int .i64 qD, .slice q6 qI.length q7] 33 (0, 0)) (by refine blk_far ?_ qX.out _; refine blk_far ?_ qX.out _; refine blk_put (cs := #[.int .i64 qD, .slice none 0 0]) ?_ 1 _ rfl; refine blk_put (cs := #[.int .i64 0, .slice none 0 0]) ?_ 0 _ rfl; exact jo.out) hb); replace jp := am (blk_below (g := jm) (o := .cells #[.int .i64 qE, .slice q8 qF.length q9] 33 (0, 0)) (by refine blk_put (cs := #[.int .i64 qE, .slice none 0 0]) ?_ 1 _ rfl; refine blk_put (cs := #[.int .i64 0, .slice none 0 0]) ?_ 0 _ rfl; refine blk_far ?_ qY.out _; refine blk_far ?_ qY.out _; exact jp.out) hb); replace HB := am (below_step (by repeat ((with_reducible first | exact HB.out | refine below_set ?_ z8.out | refine below_set ?_ z9.out))) hb); (try clear hb); have uM : ub.cell? ⟨jI, 0, none⟩ = some (.bool qG) := (blk_cell jd.out 0).trans rfl; have uN : ub.cell? ⟨jI, 1, none⟩ = some (.slice ql j2.length qm) := (blk_cell jd.out 1).trans rfl; have uO := blk_frozen jd.out 0; have uP := blk_frozen jd.out 1; have uQ : ub.cell? ⟨jn, 0, none⟩ = some (.int .i64 qD) := (blk_cell jo.out 0).trans rfl; have uR : ub.cell? ⟨jn, 1, none⟩ = some (.slice q6 qI.length q7) := (blk_cell jo.out 1).trans rfl; have uS := blk_frozen jo.out 0; have uT := blk_frozen jo.out 1) | ((with_reducible refine gate_callee (f := 14) rfl ?_); refine goesL_ (some 56) rfl rfl Try.func14 (by kernel_rfl) rfl #[.agg #[.bool qG, .slice ql j2.length qm], .agg #[.int .i64 qD, .slice q6 qI.length q7]] rfl (by (try simp only [List.map_toArray, List.map_cons, List.map_nil]); rfl) ?_; (with_reducible refine (zelligeref04_Same.calls k qG _ _ j2 qD _ _ qI true _ ?side1 ?side2 ?side3 ?side4 QO.out).mono ?_); (case side1 => exact (Kd.R_reads' jh.out).2.2); (case side2 => exact (Kd.R_reads' jh.out).2.1); (case side3 => exact (Kd.V_reads' j0.out).2.2); (case side4 => exact (Kd.V_reads' j0.out).2.1); rintro e uc ⟨rfl, hb⟩; refine ⟨_, rfl, ?_⟩; replace je := am (Kd.R_below je.out hb); replace jg := am (Kd.R_below jg.out hb); replace jh := am (Kd.R_below jh.out hb); replace jf := am (Kd.R_below jf.out hb); replace jr := am (Kd.R_below jr.out hb); replace jL := am (Kd.R_below jL.out hb); replace j0 := am (Kd.V_below j0.out hb); replace jP := am (Kd.V_below jP.out hb); replace ja := am (blk_below ja.out hb); replace jb := am (blk_below jb.out hb); replace jd := am (blk_below jd.out hb); replace jc := am (blk_below jc.out hb); replace jk := am (blk_below jk.out hb); replace ji := am (blk_below ji.out hb); replace jo := am (blk_below jo.out hb); replace jp := am (blk_below jp.out hb); replace HB := am (below_step HB.out hb); (try clear hb); have uU : uc.cell? ⟨jq, 0, none⟩ = some (.bool qw) := (blk_cell jc.out 0).trans rfl; have uV : uc.cell? ⟨jq, 1, none⟩ = some (.slice qn jZ.length qd) := (blk_cell jc.out 1).trans rfl; have uW := blk_frozen jc.out 0; have uX := blk_frozen jc.out 1; have uY : uc.cell? ⟨jm, 0, none⟩ = some (.int .i64 qE) := (blk_cell jp.out 0).trans rfl; have uZ : uc.cell? ⟨jm, 1, none⟩ = some (.slice q8 qF.length q9) := (blk_cell jp.out 1).trans rfl; have u0 := blk_frozen jp.out 0; have u1 := blk_frozen jp.out 1) | (go_at_call 14; (with_reducible refine (zelligeref04_Same.calls k qw _ _ jZ qE _ _ qF true _ ?side1 ?side2 ?side3 ?side4 QP.out).mono ?_); (case side1 => exact (Kd.R_reads' jf.out).2.2); (case side2 => exact (Kd.R_reads' jf.out).2.1); (case side3 => exact (Kd.V_reads' jP.out).2.2); (case side4 => exact (Kd.V_reads' jP.out).2.1); rintro e ud ⟨rfl, hb⟩; replace je := am (Kd.R_below je.out hb); replace jg := am (Kd.R_below jg.out hb); replace jh := am (Kd.R_below jh.out hb); replace jf := am (Kd.R_below jf.out hb); replace jr := am (Kd.R_below jr.out hb); replace jL := am (Kd.R_below jL.out hb); replace j0 := am (Kd.V_below j0.out hb); replace jP := am (Kd.V_below jP.out hb); replace ja := am (blk_below ja.out hb); replace jb := am (blk_below jb.out hb); replace jd := am (blk_below jd.out hb); replace jc := am (blk_below jc.out hb); replace jk := am (blk_below jk.out hb); replace ji := am (blk_below ji.out hb); replace jo := am (blk_below jo.out hb); replace jp := am (blk_below jp.out hb); replace HB := am (below_step HB.out hb); (try clear hb); have u2 : ud.cell? ⟨jm, 0, none⟩ = some (.int .i64 qE) := (blk_cell jp.out 0).trans rfl; have u3 : ud.cell? ⟨jm, 1, none⟩ = some (.slice q8 qF.length q9) := (blk_cell jp.out 1).trans rfl; have u4 := blk_frozen jp.out 0; have u5 := blk_frozen jp.out 1; have u6 : ud.cell? ⟨jj, 0, none⟩ = some (.int .i64 qC) := (blk_cell ji.out 0).trans rfl; have u7 : ud.cell? ⟨jj, 1, none⟩ = some (.slice zz q3.length zA) := (blk_cell ji.out 1).trans rfl; have u8 := blk_frozen ji.out 0; have u9 := blk_frozen ji.out 1) | (go_at_call 18; (with_reducible refine (zelligeref03_Cmp.calls k _ _ qF _ _ q3 zK _ ?side1 ?side2 ?side3 ?side4 Q6.out).mono ?_); (case side1 => exact (Kd.V_reads' jP.out).2.2); (case side2 => exact (Kd.V_reads' jP.out).2.1); (case side3 => exact (Kd.R_reads' jL.out).2.2); (case side4 => exact (Kd.R_reads' jL.out).2.1); rintro e w' ⟨rfl, ⟨nd, rfl⟩⟩) | (go_at_call 15; (with_reducible refine (zelligelaw04_lives.calls k  z4 _ Q7.out).mono ?_); rintro e Za ⟨rfl, hb⟩; replace je := am (Kd.R_below (by (with_reducible repeat (apply Kd.R_drewN)); exact je.out) hb); replace jg := am (Kd.R_below (by (with_reducible repeat (apply Kd.R_drewN)); exact jg.out) hb); replace jh := am (Kd.R_below (by (with_reducible repeat (apply Kd.R_drewN)); exact jh.out) hb); replace jf := am (Kd.R_below (by (with_reducible repeat (apply Kd.R_drewN)); exact jf.out) hb); replace jr := am (Kd.R_below (by (with_reducible repeat (apply Kd.R_drewN)); exact jr.out) hb); replace jL := am (Kd.R_below (by (with_reducible repeat (apply Kd.R_drewN)); exact jL.out) hb); replace j0 := am (Kd.V_below (by (with_reducible repeat (apply Kd.V_drewN)); exact j0.out) hb); replace jP := am (Kd.V_below (by (with_reducible repeat (apply Kd.V_drewN)); exact jP.out) hb); replace ja := am (blk_below (g := jM) (o := .cells #[.bool qZ, .slice qt qa.length qo] 25 (0, 0)) (by (with_reducible repeat (refine blk_drewN ?_ _)); exact ja.out) hb); replace jb := am (blk_below (g := jN) (o := .cells #[.bool q0, .slice qu qb.length qp] 25 (0, 0)) (by (with_reducible repeat (refine blk_drewN ?_ _)); exact jb.out) hb); replace jd := am (blk_below (g := jI) (o := .cells #[.bool qG, .slice ql j2.length qm] 25 (0, 0)) (by (with_reducible repeat (refine blk_drewN ?_ _)); exact jd.out) hb); replace jc := am (blk_below (g := jq) (o := .cells #[.bool qw, .slice qn jZ.length qd] 25 (0, 0)) (by (with_reducible repeat (refine blk_drewN ?_ _)); exact jc.out) hb); replace jk := am (blk_below (g := jl) (o := .cells #[.int .i64 q5, .slice zx q4.length zy] 33 (0, 0)) (by (with_reducible repeat (refine blk_drewN ?_ _)); exact jk.out) hb); replace ji := am (blk_below (g := jj) (o := .cells #[.int .i64 qC, .slice zz q3.length zA] 33 (0, 0)) (by (with_reducible repeat (refine blk_drewN ?_ _)); exact ji.out) hb); replace jo := am (blk_below (g := jn) (o := .cells #[.int .i64 qD, .slice q6 qI.length q7] 33 (0, 0)) (by (with_reducible repeat (refine blk_drewN ?_ _)); exact jo.out) hb); replace jp := am (blk_below (g := jm) (o := .cells #[.int .i64 qE, .slice q8 qF.length q9] 33 (0, 0)) (by (with_reducible repeat (refine blk_drewN ?_ _)); exact jp.out) hb); replace HB := am (below_step (by repeat ((with_reducible first | exact HB.out | apply pw_below_drewN))) hb); (try clear hb)))
       go_ret
       exact ⟨by rfl, by with_reducible exact HB.out⟩
      ·
       rw [if_neg um] at H
       have c76b0 : decide (zK < 0) = false := decide_eq_false um
       clear um
       exact absurd (Option.some.inj (H.trans (congrArg some hT.out))) (by decide)
     ·
      rw [if_neg uk] at H
      have c74b0 : (ze == 0) = false := beq_eq_false_iff_ne.mpr uk
      have c74b1 : (ze != 0) = true := bne_iff_ne.mpr uk
      by_cases zQ : ze = qC
      ·
       rw [if_pos zQ] at H
       have c161b0 : (ze == qC) = true := beq_iff_eq.mpr zQ
       have c161b1 : (ze != qC) = false := bne_eq_false_iff_eq.mpr zQ
       clear zQ
       obtain ⟨zL, JO, H⟩ := bindE H
       by_cases zX : zL < 0
       ·
        rw [if_pos zX] at H
        have c163b0 : decide (zL < 0) = true := decide_eq_true zX
        clear zX
        obtain ⟨z5, JP, H⟩ := bindE H
        obtain rfl := Option.some.inj H
        try go_wp2_with (first | ((with_reducible refine gate_callee (f := 16) rfl ?_); refine goesL_ (some 49) rfl rfl Try.func16 (by kernel_rfl) rfl #[.agg #[.int .i64 q5, .slice zx q4.length zy], .agg #[.int .i64 qC, .slice zz q3.length zA]] rfl (by (try simp only [List.map_toArray, List.map_cons, List.map_nil]); rfl) ?_; (with_reducible refine (zelligeref04_Floor.calls k q5 (fun k_ => some k_ = (.slice zx q4.length zy : Value).ownBlock) _ _ q4 qC _ _ q3 qD qI qE qF _ ?side1 ?side2 ?side3 QM.out).mono ?_); (case side1 => exact Kd.R_V (Kd.R_tight rfl (Kd.R_types (Kd.R_types (Kd.R_types (Kd.R_types (Kd.R_types (Kd.R_types (Kd.R_apart' (Kd.R_apart' (Kd.R_apart' (Kd.R_apart' (jr.out) (Kd.R_typed je.out) (by decide)) (Kd.R_typed jg.out) (by decide)) (Kd.R_typed jh.out) (by decide)) (Kd.R_typed jf.out) (by decide)) ja.out (by decide)) jb.out (by decide)) jd.out (by decide)) jc.out (by decide)) jk.out (by decide)) ji.out (by decide)))); (case side2 => exact (Kd.R_reads' jL.out).2.2); (case side3 => exact (Kd.R_reads' jL.out).2.1); rintro e Zb ⟨Jm, Jn, rfl, ho0, ho1, hb⟩; refine ⟨_, rfl, ?_⟩; replace jL := am (Kd.R_below jL.out hb); have Z0_ := (Kd.R_types (Kd.R_types (Kd.R_types (Kd.R_types (Kd.R_types (Kd.R_types (Kd.R_apart' (Kd.R_apart' (Kd.R_apart' (Kd.R_apart' (jr.out) (Kd.R_typed je.out) (by decide)) (Kd.R_typed jg.out) (by decide)) (Kd.R_typed jh.out) (by decide)) (Kd.R_typed jf.out) (by decide)) ja.out (by decide)) jb.out (by decide)) jd.out (by decide)) jc.out (by decide)) jk.out (by decide)) ji.out (by decide)); have j0 := am (Kd.V_lower (Kd.V_mono (ok' := fun k_ => some k_ ≠ (.slice qt qa.length qo : Value).ownBlock ∧ some k_ ≠ (.slice qu qb.length qp : Value).ownBlock ∧ some k_ ≠ (.slice ql j2.length qm : Value).ownBlock ∧ some k_ ≠ (.slice qn jZ.length qd : Value).ownBlock ∧ True ∧ k_ ≠ jM ∧ k_ ≠ jN ∧ k_ ≠ jI ∧ k_ ≠ jq ∧ k_ ≠ jl ∧ k_ ≠ jj) ho0 (fun k_ hk_ => ⟨Or.elim hk_ (fun hs_ => (Z0_.1 k_ hs_.symm).1.1.1.1.1.1.1.1.1.2) (fun hn_ => (Kd.fresh' (Kd.R_lt je.out) k_ hn_)), Or.elim hk_ (fun hs_ => (Z0_.1 k_ hs_.symm).1.1.1.1.1.1.1.1.2) (fun hn_ => (Kd.fresh' (Kd.R_lt jg.out) k_ hn_)), Or.elim hk_ (fun hs_ => (Z0_.1 k_ hs_.symm).1.1.1.1.1.1.1.2) (fun hn_ => (Kd.fresh' (Kd.R_lt jh.out) k_ hn_)), Or.elim hk_ (fun hs_ => (Z0_.1 k_ hs_.symm).1.1.1.1.1.1.2) (fun hn_ => (Kd.fresh' (Kd.R_lt jf.out) k_ hn_)), trivial, Or.elim hk_ (fun hs_ => (Z0_.1 k_ hs_.symm).1.1.1.1.1.2) (fun hn_ => (Kd.freshB ja.out k_ hn_)), Or.elim hk_ (fun hs_ => (Z0_.1 k_ hs_.symm).1.1.1.1.2) (fun hn_ => (Kd.freshB jb.out k_ hn_)), Or.elim hk_ (fun hs_ => (Z0_.1 k_ hs_.symm).1.1.1.2) (fun hn_ => (Kd.freshB jd.out k_ hn_)), Or.elim hk_ (fun hs_ => (Z0_.1 k_ hs_.symm).1.1.2) (fun hn_ => (Kd.freshB jc.out k_ hn_)), Or.elim hk_ (fun hs_ => (Z0_.1 k_ hs_.symm).1.2) (fun hn_ => (Kd.freshB jk.out k_ hn_)), Or.elim hk_ (fun hs_ => (Z0_.1 k_ hs_.symm).2) (fun hn_ => (Kd.freshB ji.out k_ hn_))⟩)) (below_size HB.out)); clear Z0_; have Z0_ := (Kd.R_types (Kd.R_types (Kd.R_types (Kd.R_types (Kd.R_types (Kd.R_types (Kd.R_apart' (Kd.R_apart' (Kd.R_apart' (Kd.R_apart' (jr.out) (Kd.R_typed je.out) (by decide)) (Kd.R_typed jg.out) (by decide)) (Kd.R_typed jh.out) (by decide)) (Kd.R_typed jf.out) (by decide)) ja.out (by decide)) jb.out (by decide)) jd.out (by decide)) jc.out (by decide)) jk.out (by decide)) ji.out (by decide)); have jP := am (Kd.V_lower (Kd.V_mono (ok' := fun k_ => some k_ ≠ (.slice qt qa.length qo : Value).ownBlock ∧ some k_ ≠ (.slice qu qb.length qp : Value).ownBlock ∧ some k_ ≠ (.slice ql j2.length qm : Value).ownBlock ∧ some k_ ≠ (.slice qn jZ.length qd : Value).ownBlock ∧ True ∧ k_ ≠ jM ∧ k_ ≠ jN ∧ k_ ≠ jI ∧ k_ ≠ jq ∧ k_ ≠ jl ∧ k_ ≠ jj) ho1 (fun k_ hk_ => ⟨Or.elim hk_ (fun hs_ => (Z0_.1 k_ hs_.symm).1.1.1.1.1.1.1.1.1.2) (fun hn_ => (Kd.fresh' (Kd.R_lt je.out) k_ hn_)), Or.elim hk_ (fun hs_ => (Z0_.1 k_ hs_.symm).1.1.1.1.1.1.1.1.2) (fun hn_ => (Kd.fresh' (Kd.R_lt jg.out) k_ hn_)), Or.elim hk_ (fun hs_ => (Z0_.1 k_ hs_.symm).1.1.1.1.1.1.1.2) (fun hn_ => (Kd.fresh' (Kd.R_lt jh.out) k_ hn_)), Or.elim hk_ (fun hs_ => (Z0_.1 k_ hs_.symm).1.1.1.1.1.1.2) (fun hn_ => (Kd.fresh' (Kd.R_lt jf.out) k_ hn_)), trivial, Or.elim hk_ (fun hs_ => (Z0_.1 k_ hs_.symm).1.1.1.1.1.2) (fun hn_ => (Kd.freshB ja.out k_ hn_)), Or.elim hk_ (fun hs_ => (Z0_.1 k_ hs_.symm).1.1.1.1.2) (fun hn_ => (Kd.freshB jb.out k_ hn_)), Or.elim hk_ (fun hs_ => (Z0_.1 k_ hs_.symm).1.1.1.2) (fun hn_ => (Kd.freshB jd.out k_ hn_)), Or.elim hk_ (fun hs_ => (Z0_.1 k_ hs_.symm).1.1.2) (fun hn_ => (Kd.freshB jc.out k_ hn_)), Or.elim hk_ (fun hs_ => (Z0_.1 k_ hs_.symm).1.2) (fun hn_ => (Kd.freshB jk.out k_ hn_)), Or.elim hk_ (fun hs_ => (Z0_.1 k_ hs_.symm).2) (fun hn_ => (Kd.freshB ji.out k_ hn_))⟩)) (below_size HB.out)); clear Z0_; replace je := am (Kd.R_below je.out hb); replace jg := am (Kd.R_below jg.out hb); replace jh := am (Kd.R_below jh.out hb); replace jf := am (Kd.R_below jf.out hb); replace jr := am (Kd.R_below jr.out hb); replace ja := am (blk_below ja.out hb); replace jb := am (blk_below jb.out hb); replace jd := am (blk_below jd.out hb); replace jc := am (blk_below jc.out hb); replace jk := am (blk_below jk.out hb); replace ji := am (blk_below ji.out hb); replace HB := am (below_step HB.out hb); (try clear hb); (try clear ho0); (try clear ho1)) | ((with_reducible refine gate_dst (N := 10) rfl ?_); refine box_event ?hg (N := 10) ?hd (cs := #[.int .i64 0, .slice none 0 0]) (t := 33) ?hr ?_; (case hd => rfl); (case hg => rfl); (case hr => (go_simp; done)); intro jn hg Zc hbox hb; replace je := am (Kd.R_below je.out hb); replace jg := am (Kd.R_below jg.out hb); replace jh := am (Kd.R_below jh.out hb); replace jf := am (Kd.R_below jf.out hb); replace jr := am (Kd.R_below jr.out hb); replace jL := am (Kd.R_below jL.out hb); replace j0 := am (Kd.V_below (Kd.V_elderB j0.out jn (Nat.le_of_eq hg.symm)) hb); replace jP := am (Kd.V_below (Kd.V_elderB jP.out jn (Nat.le_of_eq hg.symm)) hb); have jo := am hbox; have uy := am (gel hg HB.out); have z8 := am (gel hg HB.out); replace HB := am (below_step HB.out hb); have qL := am (nel hg ja.out); have zl := am (ner hg ja.out); replace ja := am (blk_below ja.out hb); have qM := am (nel hg jb.out); have zm := am (ner hg jb.out); replace jb := am (blk_below jb.out hb); have qN := am (nel hg jd.out); have zn := am (ner hg jd.out); replace jd := am (blk_below jd.out hb); have qO := am (nel hg jc.out); have zo := am (ner hg jc.out); replace jc := am (blk_below jc.out hb); have qP := am (nel hg jk.out); have zp := am (ner hg jk.out); replace jk := am (blk_below jk.out hb); have qQ := am (nel hg ji.out); have zq := am (ner hg ji.out); replace ji := am (blk_below ji.out hb); clear hb hbox hg) | ((with_reducible refine gate_dst (N := 11) rfl ?_); refine box_event ?hg (N := 11) ?hd (cs := #[.int .i64 0, .slice none 0 0]) (t := 33) ?hr ?_; (case hd => rfl); (case hg => rfl); (case hr => (go_simp; done)); intro jm hg zY hbox hb; replace je := am (Kd.R_below je.out hb); replace jg := am (Kd.R_below jg.out hb); replace jh := am (Kd.R_below jh.out hb); replace jf := am (Kd.R_below jf.out hb); replace jr := am (Kd.R_below jr.out hb); replace jL := am (Kd.R_below jL.out hb); replace j0 := am (Kd.V_below (Kd.V_elderB j0.out jm (Nat.le_of_eq hg.symm)) hb); replace jP := am (Kd.V_below (Kd.V_elderB jP.out jm (Nat.le_of_eq hg.symm)) hb); have jp := am hbox; have uz := am (gel hg HB.out); have z9 := am (gel hg HB.out); replace HB := am (below_step HB.out hb); have qR := am (nel hg ja.out); have zr := am (ner hg ja.out); replace ja := am (blk_below ja.out hb); have qS := am (nel hg jb.out); have zs := am (ner hg jb.out); replace jb := am (blk_below jb.out hb); have qT := am (nel hg jd.out); have zt := am (ner hg jd.out); replace jd := am (blk_below jd.out hb); have qU := am (nel hg jc.out); have zu := am (ner hg jc.out); replace jc := am (blk_below jc.out hb); have qV := am (nel hg jk.out); have zv := am (ner hg jk.out); replace jk := am (blk_below jk.out hb); have qW := am (nel hg ji.out); have zw := am (ner hg ji.out); replace ji := am (blk_below ji.out hb); have qX := am (nel hg jo.out); have qY := am (ner hg jo.out); replace jo := am (blk_below jo.out hb); clear hb hbox hg; have JQ := zl.out; have JR := qL.out; have JS := zm.out; have JT := qM.out; have JU := zn.out; have JV := qN.out; have JW := zo.out; have JX := qO.out; have JY := zp.out; have JZ := qP.out; have J0 := zq.out; have J1 := qQ.out; have J2 := qX.out; have J3 := qY.out; have Xa : zY.cell? ⟨jn, 0, none⟩ = some (.int .i64 0) := (blk_cell jo.out 0).trans rfl; have Xb : zY.cell? ⟨jn, 1, none⟩ = some (.slice none 0 0) := (blk_cell jo.out 1).trans rfl; have Xc := blk_frozen jo.out 0; have Xd := blk_frozen jo.out 1; obtain ⟨za, zb, eo228⟩ := Kd.V_slice j0.out; subst eo228; have J4 := zr.out; have J5 := qR.out; have J6 := zs.out; have J7 := qS.out; have J8 := zt.out; have J9 := qT.out; have Qa := zu.out; have Qb := qU.out; have Qc := zv.out; have Qd := qV.out; have Qe := zw.out; have Qf := qW.out; have Xe : zY.cell? ⟨jm, 0, none⟩ = some (.int .i64 0) := (blk_cell jp.out 0).trans rfl; have Xf : zY.cell? ⟨jm, 1, none⟩ = some (.slice none 0 0) := (blk_cell jp.out 1).trans rfl; have Xg := blk_frozen jp.out 0; have Xh := blk_frozen jp.out 1; obtain ⟨zc, zd, eo236⟩ := Kd.V_slice jP.out; subst eo236; have Xi : zY.cell? ⟨jq, 0, none⟩ = some (.bool qw) := (blk_cell jc.out 0).trans rfl; have Xj : zY.cell? ⟨jq, 1, none⟩ = some (.slice qn jZ.length qd) := (blk_cell jc.out 1).trans rfl; have Xk := blk_frozen jc.out 0; have Xl := blk_frozen jc.out 1) | ((with_reducible refine gate_callee (f := 17) rfl ?_); refine goesL_ (some 53) rfl rfl Try.func17 (by kernel_rfl) rfl #[.agg #[.bool qw, .slice qn jZ.length qd]] rfl (by (try simp only [List.map_toArray, List.map_cons, List.map_nil]); rfl) ?_; (with_reducible refine (whole_Sign.calls k qw _ _ jZ ze _ ?side1 ?side2 QN.out).mono ?_); (case side1 => refine (Kd.R_reads' (e := 78) (base := w.heap.size) (ok := fun k_ => (some k_ ≠ (.slice qt qa.length qo : Value).ownBlock ∧ (some k_ ≠ (.slice qu qb.length qp : Value).ownBlock ∧ some k_ ≠ (.slice ql j2.length qm : Value).ownBlock))) (n := jZ.length) (c := qd) ?_).2.2; exact (by exact (Kd.R_mono (Kd.R_mono (Kd.R_far (p := ⟨jm, 1, none⟩) (Kd.R_far (p := ⟨jm, 0, none⟩) (Kd.R_far (p := ⟨jn, 1, none⟩) (Kd.R_far (p := ⟨jn, 0, none⟩) (Kd.R_types (Kd.R_types jf.out jo.out (by decide)) jp.out (by decide)) (fun _ hk => by exact hk.1.2) (.int .i64 qD)) (fun _ hk => by exact hk.1.2) (.slice za qI.length zb)) (fun _ hk => by exact hk.2) (.int .i64 qE)) (fun _ hk => by exact hk.2) (.slice zc qF.length zd)) (fun _ h_ => h_.1)) (fun _ h_ => h_.1)))); (case side2 => exact (Kd.R_reads' jf.out).2.1); rintro e ue ⟨rfl, hb⟩; refine ⟨_, rfl, ?_⟩; replace je := am (Kd.R_below (by exact (Kd.R_mono (Kd.R_mono (Kd.R_far (p := ⟨jm, 1, none⟩) (Kd.R_far (p := ⟨jm, 0, none⟩) (Kd.R_far (p := ⟨jn, 1, none⟩) (Kd.R_far (p := ⟨jn, 0, none⟩) (Kd.R_types (Kd.R_types je.out jo.out (by decide)) jp.out (by decide)) (fun _ hk => by exact hk.1.2) (.int .i64 qD)) (fun _ hk => by exact hk.1.2) (.slice za qI.length zb)) (fun _ hk => by exact hk.2) (.int .i64 qE)) (fun _ hk => by exact hk.2) (.slice zc qF.length zd)) (fun _ h_ => h_.1)) (fun _ h_ => h_.1))) hb); replace jg := am (Kd.R_below (by exact (Kd.R_mono (Kd.R_mono (Kd.R_far (p := ⟨jm, 1, none⟩) (Kd.R_far (p := ⟨jm, 0, none⟩) (Kd.R_far (p := ⟨jn, 1, none⟩) (Kd.R_far (p := ⟨jn, 0, none⟩) (Kd.R_types (Kd.R_types jg.out jo.out (by decide)) jp.out (by decide)) (fun _ hk => by exact hk.1.2) (.int .i64 qD)) (fun _ hk => by exact hk.1.2) (.slice za qI.length zb)) (fun _ hk => by exact hk.2) (.int .i64 qE)) (fun _ hk => by exact hk.2) (.slice zc qF.length zd)) (fun _ h_ => h_.1)) (fun _ h_ => h_.1))) hb); replace jh := am (Kd.R_below (by exact (Kd.R_mono (Kd.R_mono (Kd.R_far (p := ⟨jm, 1, none⟩) (Kd.R_far (p := ⟨jm, 0, none⟩) (Kd.R_far (p := ⟨jn, 1, none⟩) (Kd.R_far (p := ⟨jn, 0, none⟩) (Kd.R_types (Kd.R_types jh.out jo.out (by decide)) jp.out (by decide)) (fun _ hk => by exact hk.1.2) (.int .i64 qD)) (fun _ hk => by exact hk.1.2) (.slice za qI.length zb)) (fun _ hk => by exact hk.2) (.int .i64 qE)) (fun _ hk => by exact hk.2) (.slice zc qF.length zd)) (fun _ h_ => h_.1)) (fun _ h_ => h_.1))) hb); replace jf := am (Kd.R_below (by exact (Kd.R_mono (Kd.R_mono (Kd.R_far (p := ⟨jm, 1, none⟩) (Kd.R_far (p := ⟨jm, 0, none⟩) (Kd.R_far (p := ⟨jn, 1, none⟩) (Kd.R_far (p := ⟨jn, 0, none⟩) (Kd.R_types (Kd.R_types jf.out jo.out (by decide)) jp.out (by decide)) (fun _ hk => by exact hk.1.2) (.int .i64 qD)) (fun _ hk => by exact hk.1.2) (.slice za qI.length zb)) (fun _ hk => by exact hk.2) (.int .i64 qE)) (fun _ hk => by exact hk.2) (.slice zc qF.length zd)) (fun _ h_ => h_.1)) (fun _ h_ => h_.1))) hb); replace jr := am (Kd.R_below (by exact (Kd.R_mono (Kd.R_mono (Kd.R_far (p := ⟨jm, 1, none⟩) (Kd.R_far (p := ⟨jm, 0, none⟩) (Kd.R_far (p := ⟨jn, 1, none⟩) (Kd.R_far (p := ⟨jn, 0, none⟩) (Kd.R_types (Kd.R_types jr.out jo.out (by decide)) jp.out (by decide)) (fun _ hk => by exact hk.1.2) (.int .i64 qD)) (fun _ hk => by exact hk.1.2) (.slice za qI.length zb)) (fun _ hk => by exact hk.2) (.int .i64 qE)) (fun _ hk => by exact hk.2) (.slice zc qF.length zd)) (fun _ h_ => h_.1)) (fun _ h_ => h_.1))) hb); replace jL := am (Kd.R_below (by exact (Kd.R_mono (Kd.R_mono (Kd.R_far (p := ⟨jm, 1, none⟩) (Kd.R_far (p := ⟨jm, 0, none⟩) (Kd.R_far (p := ⟨jn, 1, none⟩) (Kd.R_far (p := ⟨jn, 0, none⟩) (Kd.R_types (Kd.R_types jL.out jo.out (by decide)) jp.out (by decide)) (fun _ hk => by exact hk.1.2) (.int .i64 qD)) (fun _ hk => by exact hk.1.2) (.slice za qI.length zb)) (fun _ hk => by exact hk.2) (.int .i64 qE)) (fun _ hk => by exact hk.2) (.slice zc qF.length zd)) (fun _ h_ => h_.1)) (fun _ h_ => h_.1))) hb); replace j0 := am (Kd.V_below (by exact (Kd.V_mono (Kd.V_mono (Kd.V_far (p := ⟨jm, 1, none⟩) (Kd.V_far (p := ⟨jm, 0, none⟩) (Kd.V_far (p := ⟨jn, 1, none⟩) (Kd.V_far (p := ⟨jn, 0, none⟩) (Kd.V_mono (Kd.V_mono j0.out (fun k_ hk => (⟨hk, hk.1.2⟩ : _ ∧ k_ ≠ jn))) (fun k_ hk => (⟨hk, hk.1.2⟩ : _ ∧ k_ ≠ jm))) (fun _ hk => by exact hk.1.2) (.int .i64 qD)) (fun _ hk => by exact hk.1.2) (.slice za qI.length zb)) (fun _ hk => by exact hk.2) (.int .i64 qE)) (fun _ hk => by exact hk.2) (.slice zc qF.length zd)) (fun _ h_ => h_.1)) (fun _ h_ => h_.1))) hb); replace jP := am (Kd.V_below (by exact (Kd.V_mono (Kd.V_mono (Kd.V_far (p := ⟨jm, 1, none⟩) (Kd.V_far (p := ⟨jm, 0, none⟩) (Kd.V_far (p := ⟨jn, 1, none⟩) (Kd.V_far (p := ⟨jn, 0, none⟩) (Kd.V_mono (Kd.V_mono jP.out (fun k_ hk => (⟨hk, hk.1.2⟩ : _ ∧ k_ ≠ jn))) (fun k_ hk => (⟨hk, hk.1.2⟩ : _ ∧ k_ ≠ jm))) (fun _ hk => by exact hk.1.2) (.int .i64 qD)) (fun _ hk => by exact hk.1.2) (.slice za qI.length zb)) (fun _ hk => by exact hk.2) (.int .i64 qE)) (fun _ hk => by exact hk.2) (.slice zc qF.length zd)) (fun _ h_ => h_.1)) (fun _ h_ => h_.1))) hb); replace ja := am (blk_below (g := jM) (o := .cells #[.bool qZ, .slice qt qa.length qo] 25 (0, 0)) (by refine blk_far ?_ qR.out _; refine blk_far ?_ qR.out _; refine blk_far ?_ qL.out _; refine blk_far ?_ qL.out _; exact ja.out) hb); replace jb := am (blk_below (g := jN) (o := .cells #[.bool q0, .slice qu qb.length qp] 25 (0, 0)) (by refine blk_far ?_ qS.out _; refine blk_far ?_ qS.out _; refine blk_far ?_ qM.out _; refine blk_far ?_ qM.out _; exact jb.out) hb); replace jd := am (blk_below (g := jI) (o := .cells #[.bool qG, .slice ql j2.length qm] 25 (0, 0)) (by refine blk_far ?_ qT.out _; refine blk_far ?_ qT.out _; refine blk_far ?_ qN.out _; refine blk_far ?_ qN.out _; exact jd.out) hb); replace jc := am (blk_below (g := jq) (o := .cells #[.bool qw, .slice qn jZ.length qd] 25 (0, 0)) (by refine blk_far ?_ qU.out _; refine blk_far ?_ qU.out _; refine blk_far ?_ qO.out _; refine blk_far ?_ qO.out _; exact jc.out) hb); replace jk := am (blk_below (g := jl) (o := .cells #[.int .i64 q5, .slice zx q4.length zy] 33 (0, 0)) (by refine blk_far ?_ qV.out _; refine blk_far ?_ qV.out _; refine blk_far ?_ qP.out _; refine blk_far ?_ qP.out _; exact jk.out) hb); replace ji := am (blk_below (g := jj) (o := .cells #[.int .i64 qC, .slice zz q3.length zA] 33 (0, 0)) (by refine blk_far ?_ qW.out _; refine blk_far ?_ qW.out _; refine blk_far ?_ qQ.out _; refine blk_far ?_ qQ.out _; exact ji.out) hb); replace jo := am (blk_below (g := jn) (o := .cells #[.int .i64 qD, .slice za qI.length zb] 33 (0, 0)) (by refine blk_far ?_ qX.out _; refine blk_far ?_ qX.out _; refine blk_put (cs := #[.int .i64 qD, .slice none 0 0]) ?_ 1 _ rfl; refine blk_put (cs := #[.int .i64 0, .slice none 0 0]) ?_ 0 _ rfl; exact jo.out) hb); replace jp := am (blk_below (g := jm) (o := .cells #[.int .i64 qE, .slice zc qF.length zd] 33 (0, 0)) (by refine blk_put (cs := #[.int .i64 qE, .slice none 0 0]) ?_ 1 _ rfl; refine blk_put (cs := #[.int .i64 0, .slice none 0 0]) ?_ 0 _ rfl; refine blk_far ?_ qY.out _; refine blk_far ?_ qY.out _; exact jp.out) hb); replace HB := am (below_step (by repeat ((with_reducible first | exact HB.out | refine below_set ?_ z8.out | refine below_set ?_ z9.out))) hb); (try clear hb); have Xm : ue.cell? ⟨jI, 0, none⟩ = some (.bool qG) := (blk_cell jd.out 0).trans rfl; have Xn : ue.cell? ⟨jI, 1, none⟩ = some (.slice ql j2.length qm) := (blk_cell jd.out 1).trans rfl; have Xo := blk_frozen jd.out 0; have Xp := blk_frozen jd.out 1; have Xq : ue.cell? ⟨jn, 0, none⟩ = some (.int .i64 qD) := (blk_cell jo.out 0).trans rfl; have Xr : ue.cell? ⟨jn, 1, none⟩ = some (.slice za qI.length zb) := (blk_cell jo.out 1).trans rfl; have Xs := blk_frozen jo.out 0; have Xt := blk_frozen jo.out 1) | ((with_reducible refine gate_callee (f := 14) rfl ?_); refine goesL_ (some 56) rfl rfl Try.func14 (by kernel_rfl) rfl #[.agg #[.bool qG, .slice ql j2.length qm], .agg #[.int .i64 qD, .slice za qI.length zb]] rfl (by (try simp only [List.map_toArray, List.map_cons, List.map_nil]); rfl) ?_; (with_reducible refine (zelligeref04_Same.calls k qG _ _ j2 qD _ _ qI true _ ?side1 ?side2 ?side3 ?side4 QO.out).mono ?_); (case side1 => exact (Kd.R_reads' jh.out).2.2); (case side2 => exact (Kd.R_reads' jh.out).2.1); (case side3 => exact (Kd.V_reads' j0.out).2.2); (case side4 => exact (Kd.V_reads' j0.out).2.1); rintro e uf ⟨rfl, hb⟩; refine ⟨_, rfl, ?_⟩; replace je := am (Kd.R_below je.out hb); replace jg := am (Kd.R_below jg.out hb); replace jh := am (Kd.R_below jh.out hb); replace jf := am (Kd.R_below jf.out hb); replace jr := am (Kd.R_below jr.out hb); replace jL := am (Kd.R_below jL.out hb); replace j0 := am (Kd.V_below j0.out hb); replace jP := am (Kd.V_below jP.out hb); replace ja := am (blk_below ja.out hb); replace jb := am (blk_below jb.out hb); replace jd := am (blk_below jd.out hb); replace jc := am (blk_below jc.out hb); replace jk := am (blk_below jk.out hb); replace ji := am (blk_below ji.out hb); replace jo := am (blk_below jo.out hb); replace jp := am (blk_below jp.out hb); replace HB := am (below_step HB.out hb); (try clear hb); have Xu : uf.cell? ⟨jq, 0, none⟩ = some (.bool qw) := (blk_cell jc.out 0).trans rfl; have Xv : uf.cell? ⟨jq, 1, none⟩ = some (.slice qn jZ.length qd) := (blk_cell jc.out 1).trans rfl; have Xw := blk_frozen jc.out 0; have Xx := blk_frozen jc.out 1; have Xy : uf.cell? ⟨jm, 0, none⟩ = some (.int .i64 qE) := (blk_cell jp.out 0).trans rfl; have Xz : uf.cell? ⟨jm, 1, none⟩ = some (.slice zc qF.length zd) := (blk_cell jp.out 1).trans rfl; have XA := blk_frozen jp.out 0; have XB := blk_frozen jp.out 1) | (go_at_call 14; (with_reducible refine (zelligeref04_Same.calls k qw _ _ jZ qE _ _ qF true _ ?side1 ?side2 ?side3 ?side4 QP.out).mono ?_); (case side1 => exact (Kd.R_reads' jf.out).2.2); (case side2 => exact (Kd.R_reads' jf.out).2.1); (case side3 => exact (Kd.V_reads' jP.out).2.2); (case side4 => exact (Kd.V_reads' jP.out).2.1); rintro e ug ⟨rfl, hb⟩; replace je := am (Kd.R_below je.out hb); replace jg := am (Kd.R_below jg.out hb); replace jh := am (Kd.R_below jh.out hb); replace jf := am (Kd.R_below jf.out hb); replace jr := am (Kd.R_below jr.out hb); replace jL := am (Kd.R_below jL.out hb); replace j0 := am (Kd.V_below j0.out hb); replace jP := am (Kd.V_below jP.out hb); replace ja := am (blk_below ja.out hb); replace jb := am (blk_below jb.out hb); replace jd := am (blk_below jd.out hb); replace jc := am (blk_below jc.out hb); replace jk := am (blk_below jk.out hb); replace ji := am (blk_below ji.out hb); replace jo := am (blk_below jo.out hb); replace jp := am (blk_below jp.out hb); replace HB := am (below_step HB.out hb); (try clear hb); have XC : ug.cell? ⟨jj, 0, none⟩ = some (.int .i64 qC) := (blk_cell ji.out 0).trans rfl; have XD : ug.cell? ⟨jj, 1, none⟩ = some (.slice zz q3.length zA) := (blk_cell ji.out 1).trans rfl; have XE := blk_frozen ji.out 0; have XF := blk_frozen ji.out 1; have XG : ug.cell? ⟨jm, 0, none⟩ = some (.int .i64 qE) := (blk_cell jp.out 0).trans rfl; have XH : ug.cell? ⟨jm, 1, none⟩ = some (.slice zc qF.length zd) := (blk_cell jp.out 1).trans rfl; have XI := blk_frozen jp.out 0; have XJ := blk_frozen jp.out 1) | (go_at_call 18; (with_reducible refine (zelligeref03_Cmp.calls k _ _ qF _ _ q3 zL _ ?side1 ?side2 ?side3 ?side4 JO.out).mono ?_); (case side1 => exact (Kd.V_reads' jP.out).2.2); (case side2 => exact (Kd.V_reads' jP.out).2.1); (case side3 => exact (Kd.R_reads' jL.out).2.2); (case side4 => exact (Kd.R_reads' jL.out).2.1); rintro e w' ⟨rfl, ⟨nd, rfl⟩⟩) | (go_at_call 15; (with_reducible refine (zelligelaw04_lives.calls k  z5 _ JP.out).mono ?_); rintro e Zd ⟨rfl, hb⟩; replace je := am (Kd.R_below (by (with_reducible repeat (apply Kd.R_drewN)); exact je.out) hb); replace jg := am (Kd.R_below (by (with_reducible repeat (apply Kd.R_drewN)); exact jg.out) hb); replace jh := am (Kd.R_below (by (with_reducible repeat (apply Kd.R_drewN)); exact jh.out) hb); replace jf := am (Kd.R_below (by (with_reducible repeat (apply Kd.R_drewN)); exact jf.out) hb); replace jr := am (Kd.R_below (by (with_reducible repeat (apply Kd.R_drewN)); exact jr.out) hb); replace jL := am (Kd.R_below (by (with_reducible repeat (apply Kd.R_drewN)); exact jL.out) hb); replace j0 := am (Kd.V_below (by (with_reducible repeat (apply Kd.V_drewN)); exact j0.out) hb); replace jP := am (Kd.V_below (by (with_reducible repeat (apply Kd.V_drewN)); exact jP.out) hb); replace ja := am (blk_below (g := jM) (o := .cells #[.bool qZ, .slice qt qa.length qo] 25 (0, 0)) (by (with_reducible repeat (refine blk_drewN ?_ _)); exact ja.out) hb); replace jb := am (blk_below (g := jN) (o := .cells #[.bool q0, .slice qu qb.length qp] 25 (0, 0)) (by (with_reducible repeat (refine blk_drewN ?_ _)); exact jb.out) hb); replace jd := am (blk_below (g := jI) (o := .cells #[.bool qG, .slice ql j2.length qm] 25 (0, 0)) (by (with_reducible repeat (refine blk_drewN ?_ _)); exact jd.out) hb); replace jc := am (blk_below (g := jq) (o := .cells #[.bool qw, .slice qn jZ.length qd] 25 (0, 0)) (by (with_reducible repeat (refine blk_drewN ?_ _)); exact jc.out) hb); replace jk := am (blk_below (g := jl) (o := .cells #[.int .i64 q5, .slice zx q4.length zy] 33 (0, 0)) (by (with_reducible repeat (refine blk_drewN ?_ _)); exact jk.out) hb); replace ji := am (blk_below (g := jj) (o := .cells #[.int .i64 qC, .slice zz q3.length zA] 33 (0, 0)) (by (with_reducible repeat (refine blk_drewN ?_ _)); exact ji.out) hb); replace jo := am (blk_below (g := jn) (o := .cells #[.int .i64 qD, .slice za qI.length zb] 33 (0, 0)) (by (with_reducible repeat (refine blk_drewN ?_ _)); exact jo.out) hb); replace jp := am (blk_below (g := jm) (o := .cells #[.int .i64 qE, .slice zc qF.length zd] 33 (0, 0)) (by (with_reducible repeat (refine blk_drewN ?_ _)); exact jp.out) hb); replace HB := am (below_step (by repeat ((with_reducible first | exact HB.out | apply pw_below_drewN))) hb); (try clear hb)))
        go_ret
        exact ⟨by rfl, by with_reducible exact HB.out⟩
       ·
        rw [if_neg zX] at H
        have c163b0 : decide (zL < 0) = false := decide_eq_false zX
        clear zX
        exact absurd (Option.some.inj (H.trans (congrArg some hT.out))) (by decide)
      ·
       rw [if_neg zQ] at H
       have c161b0 : (ze == qC) = false := beq_eq_false_iff_ne.mpr zQ
       have c161b1 : (ze != qC) = true := bne_iff_ne.mpr zQ
       exact absurd (Option.some.inj (H.trans (congrArg some hT.out))) (by decide)
    ·
     rw [if_neg uj] at H
     have c73b0 : (zB == 0) = false := beq_eq_false_iff_ne.mpr uj
     have c73b1 : (zB != 0) = true := bne_iff_ne.mpr uj
     exact absurd (Option.some.inj (H.trans (congrArg some hT.out))) (by decide)
   ·
    replace Jf := Bool.eq_false_iff.mpr Jf
    subst Jf
    rw [if_neg (show ¬ (false = true) by decide)] at H
    exact absurd (Option.some.inj (H.trans (congrArg some hT.out))) (by decide)
  ·
   replace Je := Bool.eq_false_iff.mpr Je
   subst Je
   rw [if_neg (show ¬ (false = true) by decide)] at H
   exact absurd (Option.some.inj (H.trans (congrArg some hT.out))) (by decide)

end Go.Proofs.Ytmfmojldebhboaa.ZWhole
