-- printed by zprint.py, a program of this session's
import Derived.Test.YtmfmojldebhboaaZWhole0
import Derived.Test.YtmfmojldebhboaaZWholegAdd
import Derived.Test.YtmfmojldebhboaaZWholegSize
namespace Go.Proofs.Ytmfmojldebhboaa.ZWhole
open Go.RowKit Go.Proofs.YtmfmojldebhboaaW.PrintWords Go.Proofs.YtmfmojldebhboaaW.PrintLast Go.Proofs.YtmfmojldebhboaaW.PrintMore
set_option linter.unusedVariables false
set_option linter.unusedSimpArgs false

/-! ### whole_add: function 48 -/
def whole_add.f (k : Nat) (a0_0 : Bool) (l0_1 : List Int) (a1_0 : Bool) (l1_1 : List Int) : Option (Bool × List Int) := if (a0_0 == a1_0) = true then ((nat_Add.f k l0_1 l1_1).bind fun jR => ((whole_norm.f k a0_0 jR).bind fun bt352 => (some (bt352.1, bt352.2)))) else ((nat_Sub.f k l0_1 l1_1).bind fun bt356 => (if bt356.2 = true then ((whole_norm.f k a0_0 bt356.1).bind fun bt360 => (some (bt360.1, bt360.2))) else ((nat_Sub.f k l1_1 l0_1).bind fun bt364 => ((whole_norm.f k a1_0 bt364.1).bind fun bt368 => (some (bt368.1, bt368.2))))))
theorem whole_add.mono : ∀ a0 a1 a2 a3 k, LeO (whole_add.f k a0 a1 a2 a3) (whole_add.f (k + 1) a0 a1 a2 a3) := by
 intro a0 a1 a2 a3 k
 unfold whole_add.f
 repeat' first
   | (with_reducible exact nat_Add.mono _ _ _)
   | (with_reducible exact nat_Sub.mono _ _ _)
   | (with_reducible exact whole_norm.mono _ _ _)
   | (with_reducible exact LeO.refl _)
   | (with_reducible refine LeO.ite ?_ ?_)
   | (with_reducible refine LeO.bind ?_ (fun _ => ?_))
def whole_add.T2 : Bool × List (List Nat × List Nat) := (true, [([], []), ([0], [0]), ([], []), ([2], [2]), ([], []), ([4], [4]), ([3, 5], [3, 5]), ([1, 6, 6], [1, 6]), ([7, 7, 0, 1, 2, 3, 4, 5, 6, 7], [7])])
def whole_add.B2 : List Nat := [0, 1, 0, 4, 0, 16, 60, 127, 255]
theorem whole_add.tab2 : rtab .any (opsOf Try.f48 2) = whole_add.T2 := by kernel_rfl
theorem whole_add.bits2 : waitsOk whole_add.T2.2 whole_add.B2 = true := by kernel_rfl
set_option maxHeartbeats 8000000 in
set_option maxRecDepth 100000 in
theorem whole_add.calls (k : Nat) (a0_0 : Bool) (jf : Option Addr) (jg : Nat) (l0_1 : List Int) (a1_0 : Bool) (jj : Option Addr) (jk : Nat) (l1_1 : List Int) (r1 : Bool) (r2 : List Int) (w : World) (hr0_1 : Kd.C (Kd.int .u32) w jf l0_1.length l0_1) (hc0_1 : l0_1.length ≤ jg) (hr1_1 : Kd.C (Kd.int .u32) w jj l1_1.length l1_1) (hc1_1 : l1_1.length ≤ jk) (h : whole_add.f k a0_0 l0_1 a1_0 l1_1 = some (r1, r2)) :
  Calls Try.prog 48 #[.agg #[.bool a0_0, .slice jf l0_1.length jg], .agg #[.bool a1_0, .slice jj l1_1.length jk]] w fun e w' => ∃ v1_ : Value, e = .returned (.agg #[.bool r1, v1_]) ∧ Kd.R (Kd.int .u32) 78 w' w.heap.size (fun _ => True) v1_ r2 ∧ Below w.heap.size w w' := by
 have hu25 := Try.underlying25
 have jy := am hr0_1
 have jz := am hc0_1
 clear hr0_1 hc0_1
 have jD := am hr1_1
 have jE := am hc1_1
 clear hr1_1 hc1_1
 have HB := am (Below.refl w.heap.size w)
 have H : (if (a0_0 == a1_0) = true then ((nat_Add.f k l0_1 l1_1).bind fun jR => ((whole_norm.f k a0_0 jR).bind fun bt352 => (some (bt352.1, bt352.2)))) else ((nat_Sub.f k l0_1 l1_1).bind fun bt356 => (if bt356.2 = true then ((whole_norm.f k a0_0 bt356.1).bind fun bt360 => (some (bt360.1, bt360.2))) else ((nat_Sub.f k l1_1 l0_1).bind fun bt364 => ((whole_norm.f k a1_0 bt364.1).bind fun bt368 => (some (bt368.1, bt368.2))))))) = some (r1, r2) := h
 clear h
 by_cases c3 : (a0_0 == a1_0) = true
 ·
  rw [if_pos c3] at H
  have c3b0 : (a0_0 == a1_0) = true := c3
  (try (have c3b1 : decide (a0_0 = a1_0) = true := by simpa using c3))
  (try (have c3b2 : (a0_0 == a1_0) = true := by simpa using c3))
  clear c3
  obtain ⟨jR, A4, H⟩ := bindE H
  obtain ⟨⟨j2, j9⟩, A5, H⟩ := bindE H
  replace H : (some (j2, j9)) = some (r1, r2) := H
  simp only [Option.some.injEq, Prod.mk.injEq] at H
  obtain ⟨rfl, rfl⟩ := H
  go_enter Try.func48, Try.ntmps48
  try go_wp2_with (first | ((with_reducible refine gate_dst (N := 2) rfl ?_); refine box_event ?hg (N := 2) ?hd (cs := #[.bool a0_0, .slice jf l0_1.length jg]) (t := 25) ?hr ?_; (case hd => rfl); (case hg => rfl); (case hr => (go_simp; done)); intro jq hg w6 hbox hb; have ja := am hbox; have qp := am (gel hg HB.out); have qq := am (gel hg HB.out); replace HB := am (below_step HB.out hb); clear hb hbox hg) | ((with_reducible refine gate_dst (N := 3) rfl ?_); refine box_event ?hg (N := 3) ?hd (cs := #[.bool a1_0, .slice jj l1_1.length jk]) (t := 25) ?hr ?_; (case hd => rfl); (case hg => rfl); (case hr => (go_simp; done)); intro jr hg w7 hbox hb; have jb := am hbox; have qr := am (gel hg HB.out); have qs := am (gel hg HB.out); replace HB := am (below_step HB.out hb); have jt := am (nel hg ja.out); have ju := am (ner hg ja.out); replace ja := am (blk_below ja.out hb); clear hb hbox hg) | ((with_reducible refine gate_dst (N := 4) rfl ?_); refine box_event ?hg (N := 4) ?hd (cs := #[.bool false, .slice none 0 0]) (t := 25) ?hr ?_; (case hd => rfl); (case hg => rfl); (case hr => (go_simp; done)); intro jh hg w8 hbox hb; have jc := am hbox; have qt := am (gel hg HB.out); have jN := am (gel hg HB.out); replace HB := am (below_step HB.out hb); have jd := am (nel hg ja.out); have jl := am (ner hg ja.out); replace ja := am (blk_below ja.out hb); have je := am (nel hg jb.out); have jm := am (ner hg jb.out); replace jb := am (blk_below jb.out hb); clear hb hbox hg; have uN := jt.out; have uO := ju.out; have qU := jd.out; have qV := jl.out; have qa : w8.cell? ⟨jq, 0, none⟩ = some (.bool a0_0) := (blk_cell ja.out 0).trans rfl; have qb : w8.cell? ⟨jq, 1, none⟩ = some (.slice jf l0_1.length jg) := (blk_cell ja.out 1).trans rfl; have qc := blk_frozen ja.out 0; have qd := blk_frozen ja.out 1; have ub := je.out; have uc := jm.out; have qe : w8.cell? ⟨jr, 0, none⟩ = some (.bool a1_0) := (blk_cell jb.out 0).trans rfl; have qf : w8.cell? ⟨jr, 1, none⟩ = some (.slice jj l1_1.length jk) := (blk_cell jb.out 1).trans rfl; have qg := blk_frozen jb.out 0; have qh := blk_frozen jb.out 1))
  replace ja := am (blk_drew ja.out)
  replace jb := am (blk_drew jb.out)
  replace jc := am (blk_drew jc.out)
  replace HB := am (below_drew1 HB.out)
  refine start_ (n := 9) (S := fun w' => w'.cell? ⟨jq, 0, none⟩ = some (.bool a0_0) ∧ w'.cell? ⟨jq, 1, none⟩ = some (.slice jf l0_1.length jg) ∧ w'.cell? ⟨jr, 0, none⟩ = some (.bool a1_0) ∧ w'.cell? ⟨jr, 1, none⟩ = some (.slice jj l1_1.length jk)) (ds := []) #[false, false, false, false, false, false, false, false, false] (by kernel_rfl) rfl rfl ⟨(blk_cell ja.out 0).trans rfl, (blk_cell ja.out 1).trans rfl, (blk_cell jb.out 0).trans rfl, (blk_cell jb.out 1).trans rfl⟩ (fun hHeld => ?_); refine with_tabW whole_add.tab2 whole_add.bits2 (fun HT_ HW_ => ?_)
  generalize w8.drew = Xa at ja jb jc HB hHeld ⊢
  refine pure_ (i := 0) (N := some 14) (v := ?_) (a' := ?_) #[true, false, false, false, false, false, false, false, false] rfl rfl (any_of HT_.out (by kernel_rfl)) (fun _ _ _ h => h) (Or.inl ⟨by rfl, ?_⟩) ?_ ?_
  rotate_left
  ·
   intro w'
   go_simp
   with_reducible rfl
  rotate_left
  ·
   simp only [Act.put, sI_, s0_, s1_, i64_w, i32_w]
   rfl
  refine pure_ (i := 2) (N := some 16) (v := ?_) (a' := ?_) #[true, false, true, false, false, false, false, false, false] rfl rfl (any_of HT_.out (by kernel_rfl)) (fun _ _ _ h => h) (Or.inl ⟨by rfl, ?_⟩) ?_ ?_
  rotate_left
  ·
   intro w'
   go_simp
   with_reducible rfl
  rotate_left
  ·
   simp only [Act.put, sI_, s0_, s1_, i64_w, i32_w]
   rfl
  refine pure_ (i := 4) (N := some 18) (v := ?_) (a' := ?_) #[true, false, true, false, true, false, false, false, false] rfl rfl (any_of HT_.out (by kernel_rfl)) (fun _ _ _ h => h) (Or.inl ⟨by rfl, ?_⟩) ?_ ?_
  rotate_left
  ·
   intro w'
   go_simp
   with_reducible rfl
  rotate_left
  ·
   simp only [Act.put, sI_, s0_, s1_, i64_w, i32_w]
   rfl
  refine take_ (i := 1) (N := some 15) (v := ?_) (a' := ?_) #[true, true, true, false, true, false, false, false, false] rfl rfl (take_ofW HT_.out HW_.out (by kernel_rfl)) (fun _ _ _ h => h) (Or.inl ⟨by rfl, ?_⟩) hHeld ?_ ?_
  rotate_left
  ·
   rintro w' ⟨s0, s1, s2, s3⟩
   go_simp
   with_reducible rfl
  rotate_left
  ·
   simp only [Act.put, sI_, s0_, s1_, i64_w, i32_w]
   rfl
  refine take_ (i := 3) (N := some 17) (v := ?_) (a' := ?_) #[true, true, true, true, true, false, false, false, false] rfl rfl (take_ofW HT_.out HW_.out (by kernel_rfl)) (fun _ _ _ h => h) (Or.inl ⟨by rfl, ?_⟩) hHeld ?_ ?_
  rotate_left
  ·
   rintro w' ⟨s0, s1, s2, s3⟩
   go_simp
   with_reducible rfl
  rotate_left
  ·
   simp only [Act.put, sI_, s0_, s1_, i64_w, i32_w]
   rfl
  refine take_ (i := 5) (N := some 19) (v := ?_) (a' := ?_) #[true, true, true, true, true, true, false, false, false] rfl rfl (take_ofW HT_.out HW_.out (by kernel_rfl)) (fun _ _ _ h => h) (Or.inl ⟨by rfl, ?_⟩) hHeld ?_ ?_
  rotate_left
  ·
   rintro w' ⟨s0, s1, s2, s3⟩
   go_simp
   with_reducible rfl
  rotate_left
  ·
   simp only [Act.put, sI_, s0_, s1_, i64_w, i32_w]
   rfl
  refine one_ (i := 6) (N := some 20) #[true, true, true, true, true, true, true, false, false] rfl rfl (one_of HT_.out (by kernel_rfl)) (by decide) (fun K hK => ?_)
  refine goes_ Try.func81 (by kernel_rfl) rfl #[.slice jf l0_1.length jg, .slice jj l1_1.length jk] (by rfl) rfl rfl (by (try simp only [List.map_toArray, List.map_cons, List.map_nil]); rfl) ?_
  with_reducible refine (nat_Add.calls k (fun k_ => k_ < w.heap.size) _ _ l0_1 (fun k_ => k_ < w.heap.size) _ _ l1_1 jR _ ?side1 ?side2 A4.out).mono ?_
  (case side1 => exact Kd.V_mk jz.out (Kd.F_below (Kd.C_F (Kd.heap_int .u32) jy.out) HB.out))
  (case side2 => exact Kd.V_mk jE.out (Kd.F_below (Kd.C_F (Kd.heap_int .u32) jD.out) HB.out))
  rintro e Xb ⟨uP, rfl, ho0, hb⟩
  refine ⟨_, rfl, ?_⟩
  have jI := am (Kd.R_lower (Kd.R_mono (ok' := fun k_ => True) ho0 (fun _ hk_ => trivial)) (below_size HB.out))
  replace ja := am (blk_below ja.out hb)
  replace jb := am (blk_below jb.out hb)
  replace jc := am (blk_below jc.out hb)
  replace HB := am (below_step HB.out hb)
  try clear hb
  try clear ho0
  obtain ⟨zU, zV, eo16⟩ := Kd.R_slice jI.out
  (subst eo16)
  refine hK.out _ _ ⟨(blk_cell ja.out 0).trans rfl, (blk_cell ja.out 1).trans rfl, (blk_cell jb.out 0).trans rfl, (blk_cell jb.out 1).trans rfl⟩ (fun hHeld => ?_)
  clear hK K
  refine norm_ (a' := ?_) ?_ ?_
  rotate_left
  ·
   show Act.put _ (some 20) _ = _
   simp only [Act.put, sI_, s0_, s1_, i64_w, i32_w]
   rfl
  refine one_ (i := 7) (N := some 21) #[true, true, true, true, true, true, true, true, false] rfl rfl (one_of HT_.out (by kernel_rfl)) (by decide) (fun K hK => ?_)
  refine goes_ Try.func47 (by kernel_rfl) rfl #[.bool a0_0, .slice zU jR.length zV] (by rfl) rfl rfl (by (try simp only [List.map_toArray, List.map_cons, List.map_nil]); rfl) ?_
  with_reducible refine (whole_norm.calls k a0_0 _ _ jR j2 j9 _ ?side1 ?side2 A5.out).mono ?_
  (case side1 => exact (Kd.R_reads' jI.out).2.2)
  (case side2 => exact (Kd.R_reads' jI.out).2.1)
  rintro e ud ⟨uQ, rfl, ho0, hb⟩
  refine ⟨_, rfl, ?_⟩
  have qu := am (Kd.R_lower (Kd.R_new' ho0 (Kd.R_lt jI.out)) (below_size HB.out))
  replace jI := am (Kd.R_elder' jI.out (Kd.R_base ho0) hb)
  replace ja := am (blk_below ja.out hb)
  replace jb := am (blk_below jb.out hb)
  replace jc := am (blk_below jc.out hb)
  replace HB := am (below_step HB.out hb)
  try clear hb
  try clear ho0
  obtain ⟨qW, qX, eo19⟩ := Kd.R_slice qu.out
  (subst eo19)
  refine hK.out _ _ ⟨(blk_cell ja.out 0).trans rfl, (blk_cell ja.out 1).trans rfl, (blk_cell jb.out 0).trans rfl, (blk_cell jb.out 1).trans rfl⟩ (fun hHeld => ?_)
  clear hK K
  refine norm_ (a' := ?_) ?_ ?_
  rotate_left
  ·
   show Act.put _ (some 21) _ = _
   simp only [Act.put, sI_, s0_, s1_, i64_w, i32_w]
   rfl
  refine one_ (i := 8) (N := none) #[true, true, true, true, true, true, true, true, true] rfl rfl (one_of HT_.out (by kernel_rfl)) (by decide) (fun K hK => ?_)
  have uR : ud.cell? ⟨jh, 0, none⟩ = some (.bool false) := (blk_cell jc.out 0).trans rfl
  have hfs18 := blk_frozen jc.out 0
  have hns18_0 := jd.out
  have hns18_1 := je.out
  have hms18_0 := jl.out
  have hms18_1 := jm.out
  have uS : ud.cell? ⟨jh, 1, none⟩ = some (.slice none 0 0) := (blk_cell jc.out 1).trans rfl
  have hfs20 := blk_frozen jc.out 1
  have hns20_0 := jd.out
  have hns20_1 := je.out
  have hms20_0 := jl.out
  have hms20_1 := jm.out
  refine skip_ (w1 := ?_) (by rfl) rfl ?_ ?_
  rotate_left
  ·
   go_simp
   rfl
  refine hK.out _ _ ⟨((cell_far (p := ⟨jh, _, none⟩) jd.out _).trans (((cell_far (p := ⟨jh, _, none⟩) jd.out _).trans (hHeld.1)))), ((cell_far (p := ⟨jh, _, none⟩) jd.out _).trans (((cell_far (p := ⟨jh, _, none⟩) jd.out _).trans (hHeld.2.1)))), ((cell_far (p := ⟨jh, _, none⟩) je.out _).trans (((cell_far (p := ⟨jh, _, none⟩) je.out _).trans (hHeld.2.2.1)))), ((cell_far (p := ⟨jh, _, none⟩) je.out _).trans (((cell_far (p := ⟨jh, _, none⟩) je.out _).trans (hHeld.2.2.2))))⟩ (fun hHeld => ?_)
  clear hK K
  refine done_ (done_of HT_.out (by kernel_rfl)) ?_
  try go_wp2
  refine bodyPost_ret (results_cell_row rfl _ _ jh 25 #[.bool j2, .slice qW j9.length qX] (0, 0) _ rfl (by refine blk_put (cs := #[.bool j2, .slice none 0 0]) ?_ 1 _ rfl; refine blk_put (cs := #[.bool false, .slice none 0 0]) ?_ 0 _ rfl; exact jc.out) Try.underlying25 rfl (by kernel_rfl)) rfl ?_
  exact ⟨_, by rfl, by exact Kd.R_mono (Kd.R_far (p := ⟨jh, 1, none⟩) (Kd.R_far (p := ⟨jh, 0, none⟩) (Kd.R_types qu.out jc.out (by decide)) (fun _ hk => hk.2) (.bool j2)) (fun _ hk => hk.2) (.slice qW j9.length qX)) (fun _ hk => trivial), by repeat ((with_reducible first | exact HB.out | refine below_set ?_ jN.out))⟩
 ·
  rw [if_neg c3] at H
  have c3b0 : (a0_0 == a1_0) = false := by simpa using c3
  (try (have c3b1 : decide (a0_0 = a1_0) = false := by simpa using c3))
  (try (have c3b2 : (a0_0 == a1_0) = false := by simpa using c3))
  (try (have c3b3 : ¬ (a0_0 = a1_0) := by simpa using c3))
  clear c3
  obtain ⟨⟨qi, zW⟩, ue, H⟩ := bindE H
  dsimp only at H
  by_cases zc : zW = true
  ·
   subst zc
   rw [if_pos rfl] at H
   obtain ⟨⟨j3, qj⟩, uT, H⟩ := bindE H
   replace H : (some (j3, qj)) = some (r1, r2) := H
   simp only [Option.some.injEq, Prod.mk.injEq] at H
   obtain ⟨rfl, rfl⟩ := H
   go_enter Try.func48, Try.ntmps48
   go_wp2_with (first | ((with_reducible refine gate_dst (N := 2) rfl ?_); refine box_event ?hg (N := 2) ?hd (cs := #[.bool a0_0, .slice jf l0_1.length jg]) (t := 25) ?hr ?_; (case hd => rfl); (case hg => rfl); (case hr => (go_simp; done)); intro jq hg Xc hbox hb; have ja := am hbox; have qp := am (gel hg HB.out); have qq := am (gel hg HB.out); replace HB := am (below_step HB.out hb); clear hb hbox hg) | ((with_reducible refine gate_dst (N := 3) rfl ?_); refine box_event ?hg (N := 3) ?hd (cs := #[.bool a1_0, .slice jj l1_1.length jk]) (t := 25) ?hr ?_; (case hd => rfl); (case hg => rfl); (case hr => (go_simp; done)); intro jr hg Xd hbox hb; have jb := am hbox; have qr := am (gel hg HB.out); have qs := am (gel hg HB.out); replace HB := am (below_step HB.out hb); have jt := am (nel hg ja.out); have ju := am (ner hg ja.out); replace ja := am (blk_below ja.out hb); clear hb hbox hg) | ((with_reducible refine gate_dst (N := 4) rfl ?_); refine box_event ?hg (N := 4) ?hd (cs := #[.bool false, .slice none 0 0]) (t := 25) ?hr ?_; (case hd => rfl); (case hg => rfl); (case hr => (go_simp; done)); intro jh hg zd hbox hb; have jc := am hbox; have qt := am (gel hg HB.out); have jN := am (gel hg HB.out); replace HB := am (below_step HB.out hb); have jd := am (nel hg ja.out); have jl := am (ner hg ja.out); replace ja := am (blk_below ja.out hb); have je := am (nel hg jb.out); have jm := am (ner hg jb.out); replace jb := am (blk_below jb.out hb); clear hb hbox hg; have uf := jt.out; have ug := ju.out; have uh := jd.out; have ui := jl.out; have ze : zd.cell? ⟨jq, 0, none⟩ = some (.bool a0_0) := (blk_cell ja.out 0).trans rfl; have zf : zd.cell? ⟨jq, 1, none⟩ = some (.slice jf l0_1.length jg) := (blk_cell ja.out 1).trans rfl; have zg := blk_frozen ja.out 0; have zh := blk_frozen ja.out 1; have uj := je.out; have uk := jm.out; have zi : zd.cell? ⟨jr, 0, none⟩ = some (.bool a1_0) := (blk_cell jb.out 0).trans rfl; have zj : zd.cell? ⟨jr, 1, none⟩ = some (.slice jj l1_1.length jk) := (blk_cell jb.out 1).trans rfl; have zk := blk_frozen jb.out 0; have zl := blk_frozen jb.out 1) | ((with_reducible refine gate_callee (f := 82) rfl ?_); refine goesL_ (some 27) rfl rfl Try.func82 (by kernel_rfl) rfl #[.slice jf l0_1.length jg, .slice jj l1_1.length jk] rfl (by (try simp only [List.map_toArray, List.map_cons, List.map_nil]); rfl) ?_; (with_reducible refine (nat_Sub.calls k _ _ l0_1 _ _ l1_1 qi true _ ?side1 ?side2 ?side3 ?side4 ue.out).mono ?_); (case side1 => repeat (exact (Kd.C_below jy.out HB.out))); (case side2 => exact jz.out); (case side3 => repeat (exact (Kd.C_below jD.out HB.out))); (case side4 => exact jE.out); rintro e ul ⟨zX, rfl, ho0, hb⟩; refine ⟨_, rfl, ?_⟩; have jv := am (Kd.R_lower ho0 (below_size HB.out)); replace ja := am (blk_below ja.out hb); replace jb := am (blk_below jb.out hb); replace jc := am (blk_below jc.out hb); replace HB := am (below_step HB.out hb); (try clear hb); (try clear ho0); have zm : ul.cell? ⟨jq, 0, none⟩ = some (.bool a0_0) := (blk_cell ja.out 0).trans rfl; have zn : ul.cell? ⟨jq, 1, none⟩ = some (.slice jf l0_1.length jg) := (blk_cell ja.out 1).trans rfl; have zo := blk_frozen ja.out 0; have zp := blk_frozen ja.out 1; obtain ⟨zY, zZ, eo34⟩ := Kd.R_slice jv.out; subst eo34) | ((with_reducible refine gate_callee (f := 47) rfl ?_); refine goesL_ (some 34) rfl rfl Try.func47 (by kernel_rfl) rfl #[.bool a0_0, .slice zY qi.length zZ] rfl (by (try simp only [List.map_toArray, List.map_cons, List.map_nil]); rfl) ?_; (with_reducible refine (whole_norm.calls k a0_0 _ _ qi j3 qj _ ?side1 ?side2 uT.out).mono ?_); (case side1 => exact (Kd.R_reads' jv.out).2.2); (case side2 => exact (Kd.R_reads' jv.out).2.1); rintro e um ⟨uU, rfl, ho0, hb⟩; refine ⟨_, rfl, ?_⟩; have qv := am (Kd.R_lower (Kd.R_new' ho0 (Kd.R_lt jv.out)) (below_size HB.out)); replace jv := am (Kd.R_elder' jv.out (Kd.R_base ho0) hb); replace ja := am (blk_below ja.out hb); replace jb := am (blk_below jb.out hb); replace jc := am (blk_below jc.out hb); replace HB := am (below_step HB.out hb); (try clear hb); (try clear ho0); have zq : um.cell? ⟨jh, 0, none⟩ = some (.bool false) := (blk_cell jc.out 0).trans rfl; have zr : um.cell? ⟨jh, 1, none⟩ = some (.slice none 0 0) := (blk_cell jc.out 1).trans rfl; have zs := blk_frozen jc.out 0; have zt := blk_frozen jc.out 1; obtain ⟨qY, qZ, eo37⟩ := Kd.R_slice qv.out; subst eo37))
   refine bodyPost_ret (results_cell_row rfl _ _ jh 25 #[.bool j3, .slice qY qj.length qZ] (0, 0) _ rfl (by refine blk_put (cs := #[.bool j3, .slice none 0 0]) ?_ 1 _ rfl; refine blk_put (cs := #[.bool false, .slice none 0 0]) ?_ 0 _ rfl; exact jc.out) Try.underlying25 rfl (by kernel_rfl)) rfl ?_
   exact ⟨_, by rfl, by exact Kd.R_mono (Kd.R_far (p := ⟨jh, 1, none⟩) (Kd.R_far (p := ⟨jh, 0, none⟩) (Kd.R_types qv.out jc.out (by decide)) (fun _ hk => hk.2) (.bool j3)) (fun _ hk => hk.2) (.slice qY qj.length qZ)) (fun _ hk => trivial), by repeat ((with_reducible first | exact HB.out | refine below_set ?_ jN.out))⟩
  ·
   replace zc := Bool.eq_false_iff.mpr zc
   subst zc
   rw [if_neg (show ¬ (false = true) by decide)] at H
   obtain ⟨⟨qH, z0⟩, uV, H⟩ := bindE H
   dsimp only at H
   obtain ⟨⟨j4, qk⟩, uW, H⟩ := bindE H
   replace H : (some (j4, qk)) = some (r1, r2) := H
   simp only [Option.some.injEq, Prod.mk.injEq] at H
   obtain ⟨rfl, rfl⟩ := H
   go_enter Try.func48, Try.ntmps48
   go_wp2_with (first | ((with_reducible refine gate_dst (N := 2) rfl ?_); refine box_event ?hg (N := 2) ?hd (cs := #[.bool a0_0, .slice jf l0_1.length jg]) (t := 25) ?hr ?_; (case hd => rfl); (case hg => rfl); (case hr => (go_simp; done)); intro jq hg Xe hbox hb; have ja := am hbox; have qp := am (gel hg HB.out); have qq := am (gel hg HB.out); replace HB := am (below_step HB.out hb); clear hb hbox hg) | ((with_reducible refine gate_dst (N := 3) rfl ?_); refine box_event ?hg (N := 3) ?hd (cs := #[.bool a1_0, .slice jj l1_1.length jk]) (t := 25) ?hr ?_; (case hd => rfl); (case hg => rfl); (case hr => (go_simp; done)); intro jr hg Xf hbox hb; have jb := am hbox; have qr := am (gel hg HB.out); have qs := am (gel hg HB.out); replace HB := am (below_step HB.out hb); have jt := am (nel hg ja.out); have ju := am (ner hg ja.out); replace ja := am (blk_below ja.out hb); clear hb hbox hg) | ((with_reducible refine gate_dst (N := 4) rfl ?_); refine box_event ?hg (N := 4) ?hd (cs := #[.bool false, .slice none 0 0]) (t := 25) ?hr ?_; (case hd => rfl); (case hg => rfl); (case hr => (go_simp; done)); intro jh hg zu hbox hb; have jc := am hbox; have qt := am (gel hg HB.out); have jN := am (gel hg HB.out); replace HB := am (below_step HB.out hb); have jd := am (nel hg ja.out); have jl := am (ner hg ja.out); replace ja := am (blk_below ja.out hb); have je := am (nel hg jb.out); have jm := am (ner hg jb.out); replace jb := am (blk_below jb.out hb); clear hb hbox hg; have un := jt.out; have uo := ju.out; have up := jd.out; have uq := jl.out; have zv : zu.cell? ⟨jq, 0, none⟩ = some (.bool a0_0) := (blk_cell ja.out 0).trans rfl; have zw : zu.cell? ⟨jq, 1, none⟩ = some (.slice jf l0_1.length jg) := (blk_cell ja.out 1).trans rfl; have zx := blk_frozen ja.out 0; have zy := blk_frozen ja.out 1; have ur := je.out; have us := jm.out; have zz : zu.cell? ⟨jr, 0, none⟩ = some (.bool a1_0) := (blk_cell jb.out 0).trans rfl; have zA : zu.cell? ⟨jr, 1, none⟩ = some (.slice jj l1_1.length jk) := (blk_cell jb.out 1).trans rfl; have zB := blk_frozen jb.out 0; have zC := blk_frozen jb.out 1) | ((with_reducible refine gate_callee (f := 82) rfl ?_); refine goesL_ (some 27) rfl rfl Try.func82 (by kernel_rfl) rfl #[.slice jf l0_1.length jg, .slice jj l1_1.length jk] rfl (by (try simp only [List.map_toArray, List.map_cons, List.map_nil]); rfl) ?_; (with_reducible refine (nat_Sub.calls k _ _ l0_1 _ _ l1_1 qi false _ ?side1 ?side2 ?side3 ?side4 ue.out).mono ?_); (case side1 => repeat (exact (Kd.C_below jy.out HB.out))); (case side2 => exact jz.out); (case side3 => repeat (exact (Kd.C_below jD.out HB.out))); (case side4 => exact jE.out); rintro e zD ⟨zX, rfl, ho0, hb⟩; refine ⟨_, rfl, ?_⟩; have jv := am (Kd.R_lower ho0 (below_size HB.out)); replace ja := am (blk_below ja.out hb); replace jb := am (blk_below jb.out hb); replace jc := am (blk_below jc.out hb); replace HB := am (below_step HB.out hb); (try clear hb); (try clear ho0); have zE : zD.cell? ⟨jr, 0, none⟩ = some (.bool a1_0) := (blk_cell jb.out 0).trans rfl; have zF : zD.cell? ⟨jr, 1, none⟩ = some (.slice jj l1_1.length jk) := (blk_cell jb.out 1).trans rfl; have zG := blk_frozen jb.out 0; have zH := blk_frozen jb.out 1; have zI : zD.cell? ⟨jq, 0, none⟩ = some (.bool a0_0) := (blk_cell ja.out 0).trans rfl; have zJ : zD.cell? ⟨jq, 1, none⟩ = some (.slice jf l0_1.length jg) := (blk_cell ja.out 1).trans rfl; have zK := blk_frozen ja.out 0; have zL := blk_frozen ja.out 1) | ((with_reducible refine gate_callee (f := 82) rfl ?_); refine goesL_ (some 40) rfl rfl Try.func82 (by kernel_rfl) rfl #[.slice jj l1_1.length jk, .slice jf l0_1.length jg] rfl (by (try simp only [List.map_toArray, List.map_cons, List.map_nil]); rfl) ?_; (with_reducible refine (nat_Sub.calls k _ _ l1_1 _ _ l0_1 qH z0 _ ?side1 ?side2 ?side3 ?side4 uV.out).mono ?_); (case side1 => repeat (exact (Kd.C_below jD.out HB.out))); (case side2 => exact jE.out); (case side3 => repeat (exact (Kd.C_below jy.out HB.out))); (case side4 => exact jz.out); rintro e ut ⟨uX, rfl, ho0, hb⟩; refine ⟨_, rfl, ?_⟩; have jJ := am (Kd.R_lower (Kd.R_new' ho0 (Kd.R_lt jv.out)) (below_size HB.out)); replace jv := am (Kd.R_elder' jv.out (Kd.R_base ho0) hb); replace ja := am (blk_below ja.out hb); replace jb := am (blk_below jb.out hb); replace jc := am (blk_below jc.out hb); replace HB := am (below_step HB.out hb); (try clear hb); (try clear ho0); have zM : ut.cell? ⟨jr, 0, none⟩ = some (.bool a1_0) := (blk_cell jb.out 0).trans rfl; have zN : ut.cell? ⟨jr, 1, none⟩ = some (.slice jj l1_1.length jk) := (blk_cell jb.out 1).trans rfl; have zO := blk_frozen jb.out 0; have zP := blk_frozen jb.out 1; obtain ⟨z1, z2, eo53⟩ := Kd.R_slice jJ.out; subst eo53) | ((with_reducible refine gate_callee (f := 47) rfl ?_); refine goesL_ (some 46) rfl rfl Try.func47 (by kernel_rfl) rfl #[.bool a1_0, .slice z1 qH.length z2] rfl (by (try simp only [List.map_toArray, List.map_cons, List.map_nil]); rfl) ?_; (with_reducible refine (whole_norm.calls k a1_0 _ _ qH j4 qk _ ?side1 ?side2 uW.out).mono ?_); (case side1 => exact (Kd.R_reads' jJ.out).2.2); (case side2 => exact (Kd.R_reads' jJ.out).2.1); rintro e uu ⟨uY, rfl, ho0, hb⟩; refine ⟨_, rfl, ?_⟩; have qw := am (Kd.R_lower (Kd.R_new' (Kd.R_new' ho0 (Kd.R_lt jv.out)) (Kd.R_lt jJ.out)) (below_size HB.out)); replace jv := am (Kd.R_elder' jv.out (Kd.R_base ho0) hb); replace jJ := am (Kd.R_elder' jJ.out (Kd.R_base ho0) hb); replace ja := am (blk_below ja.out hb); replace jb := am (blk_below jb.out hb); replace jc := am (blk_below jc.out hb); replace HB := am (below_step HB.out hb); (try clear hb); (try clear ho0); have zQ : uu.cell? ⟨jh, 0, none⟩ = some (.bool false) := (blk_cell jc.out 0).trans rfl; have zR : uu.cell? ⟨jh, 1, none⟩ = some (.slice none 0 0) := (blk_cell jc.out 1).trans rfl; have zS := blk_frozen jc.out 0; have zT := blk_frozen jc.out 1; obtain ⟨q0, q1, eo56⟩ := Kd.R_slice qw.out; subst eo56))
   refine bodyPost_ret (results_cell_row rfl _ _ jh 25 #[.bool j4, .slice q0 qk.length q1] (0, 0) _ rfl (by refine blk_put (cs := #[.bool j4, .slice none 0 0]) ?_ 1 _ rfl; refine blk_put (cs := #[.bool false, .slice none 0 0]) ?_ 0 _ rfl; exact jc.out) Try.underlying25 rfl (by kernel_rfl)) rfl ?_
   exact ⟨_, by rfl, by exact Kd.R_mono (Kd.R_far (p := ⟨jh, 1, none⟩) (Kd.R_far (p := ⟨jh, 0, none⟩) (Kd.R_types qw.out jc.out (by decide)) (fun _ hk => hk.2) (.bool j4)) (fun _ hk => hk.2) (.slice q0 qk.length q1)) (fun _ hk => trivial), by repeat ((with_reducible first | exact HB.out | refine below_set ?_ jN.out))⟩

/-! ### whole_Add: function 19 -/
def whole_Add.f (k : Nat) (a0_0 : Bool) (l0_1 : List Int) (a1_0 : Bool) (l1_1 : List Int) : Option (Bool × List Int) := (whole_add.f k a0_0 l0_1 a1_0 l1_1).bind fun bt493 => (some (bt493.1, bt493.2))
theorem whole_Add.mono : ∀ a0 a1 a2 a3 k, LeO (whole_Add.f k a0 a1 a2 a3) (whole_Add.f (k + 1) a0 a1 a2 a3) := by
 intro a0 a1 a2 a3 k
 unfold whole_Add.f
 repeat' first
   | (with_reducible exact whole_add.mono _ _ _ _ _)
   | (with_reducible exact LeO.refl _)
   | (with_reducible refine LeO.bind ?_ (fun _ => ?_))
set_option maxHeartbeats 8000000 in
set_option maxRecDepth 100000 in
theorem whole_Add.calls (k : Nat) (a0_0 : Bool) (jf : Option Addr) (jg : Nat) (l0_1 : List Int) (a1_0 : Bool) (jj : Option Addr) (jk : Nat) (l1_1 : List Int) (r1 : Bool) (r2 : List Int) (w : World) (hr0_1 : Kd.C (Kd.int .u32) w jf l0_1.length l0_1) (hc0_1 : l0_1.length ≤ jg) (hr1_1 : Kd.C (Kd.int .u32) w jj l1_1.length l1_1) (hc1_1 : l1_1.length ≤ jk) (h : whole_Add.f k a0_0 l0_1 a1_0 l1_1 = some (r1, r2)) :
  Calls Try.prog 19 #[.agg #[.bool a0_0, .slice jf l0_1.length jg], .agg #[.bool a1_0, .slice jj l1_1.length jk]] w fun e w' => ∃ v1_ : Value, e = .returned (.agg #[.bool r1, v1_]) ∧ Kd.R (Kd.int .u32) 78 w' w.heap.size (fun _ => True) v1_ r2 ∧ Below w.heap.size w w' := by
 have hu25 := Try.underlying25
 have jy := am hr0_1
 have jz := am hc0_1
 clear hr0_1 hc0_1
 have jD := am hr1_1
 have jE := am hc1_1
 clear hr1_1 hc1_1
 have HB := am (Below.refl w.heap.size w)
 have H : ((whole_add.f k a0_0 l0_1 a1_0 l1_1).bind fun bt493 => (some (bt493.1, bt493.2))) = some (r1, r2) := h
 clear h
 obtain ⟨⟨j5, ql⟩, A3, H⟩ := bindE H
 replace H : (some (j5, ql)) = some (r1, r2) := H
 simp only [Option.some.injEq, Prod.mk.injEq] at H
 obtain ⟨rfl, rfl⟩ := H
 go_enter Try.func19, Try.ntmps19
 go_wp2_with (first | ((with_reducible refine gate_dst (N := 2) rfl ?_); refine box_event ?hg (N := 2) ?hd (cs := #[.bool a0_0, .slice jf l0_1.length jg]) (t := 25) ?hr ?_; (case hd => rfl); (case hg => rfl); (case hr => (go_simp; done)); intro qx hg w4 hbox hb; have js := am hbox; have uv := am (gel hg HB.out); have uw := am (gel hg HB.out); replace HB := am (below_step HB.out hb); clear hb hbox hg) | ((with_reducible refine gate_dst (N := 3) rfl ?_); refine box_event ?hg (N := 3) ?hd (cs := #[.bool a1_0, .slice jj l1_1.length jk]) (t := 25) ?hr ?_; (case hd => rfl); (case hg => rfl); (case hr => (go_simp; done)); intro qy hg w5 hbox hb; have jA := am hbox; have ux := am (gel hg HB.out); have uy := am (gel hg HB.out); replace HB := am (below_step HB.out hb); have jS := am (nel hg js.out); have jT := am (ner hg js.out); replace js := am (blk_below js.out hb); clear hb hbox hg) | ((with_reducible refine gate_dst (N := 4) rfl ?_); refine box_event ?hg (N := 4) ?hd (cs := #[.bool false, .slice none 0 0]) (t := 25) ?hr ?_; (case hd => rfl); (case hg => rfl); (case hr => (go_simp; done)); intro jO hg w6 hbox hb; have jF := am hbox; have uz := am (gel hg HB.out); have q2 := am (gel hg HB.out); replace HB := am (below_step HB.out hb); have jU := am (nel hg js.out); have jV := am (ner hg js.out); replace js := am (blk_below js.out hb); have jW := am (nel hg jA.out); have jX := am (ner hg jA.out); replace jA := am (blk_below jA.out hb); clear hb hbox hg; have uZ := jS.out; have u0 := jT.out; have u1 := jU.out; have u2 := jV.out; have z3 : w6.cell? ⟨qx, 0, none⟩ = some (.bool a0_0) := (blk_cell js.out 0).trans rfl; have z4 : w6.cell? ⟨qx, 1, none⟩ = some (.slice jf l0_1.length jg) := (blk_cell js.out 1).trans rfl; have z5 := blk_frozen js.out 0; have z6 := blk_frozen js.out 1; have qU := jW.out; have qV := jX.out; have qa : w6.cell? ⟨qy, 0, none⟩ = some (.bool a1_0) := (blk_cell jA.out 0).trans rfl; have qb : w6.cell? ⟨qy, 1, none⟩ = some (.slice jj l1_1.length jk) := (blk_cell jA.out 1).trans rfl; have qc := blk_frozen jA.out 0; have qd := blk_frozen jA.out 1) | ((with_reducible refine gate_callee (f := 48) rfl ?_); refine goesL_ (some 7) rfl rfl Try.func48 (by kernel_rfl) rfl #[.agg #[.bool a0_0, .slice jf l0_1.length jg], .agg #[.bool a1_0, .slice jj l1_1.length jk]] rfl (by (try simp only [List.map_toArray, List.map_cons, List.map_nil]); rfl) ?_; (with_reducible refine (whole_add.calls k a0_0 _ _ l0_1 a1_0 _ _ l1_1 j5 ql _ ?side1 ?side2 ?side3 ?side4 A3.out).mono ?_); (case side1 => repeat (exact (Kd.C_below jy.out HB.out))); (case side2 => exact jz.out); (case side3 => repeat (exact (Kd.C_below jD.out HB.out))); (case side4 => exact jE.out); rintro e uA ⟨u3, rfl, ho0, hb⟩; refine ⟨_, rfl, ?_⟩; have qz := am (Kd.R_lower ho0 (below_size HB.out)); replace js := am (blk_below js.out hb); replace jA := am (blk_below jA.out hb); replace jF := am (blk_below jF.out hb); replace HB := am (below_step HB.out hb); (try clear hb); (try clear ho0); have qe : uA.cell? ⟨jO, 0, none⟩ = some (.bool false) := (blk_cell jF.out 0).trans rfl; have qf : uA.cell? ⟨jO, 1, none⟩ = some (.slice none 0 0) := (blk_cell jF.out 1).trans rfl; have qg := blk_frozen jF.out 0; have qh := blk_frozen jF.out 1; obtain ⟨q3, q4, eo14⟩ := Kd.R_slice qz.out; subst eo14))
 refine bodyPost_ret (results_cell_row rfl _ _ jO 25 #[.bool j5, .slice q3 ql.length q4] (0, 0) _ rfl (by refine blk_put (cs := #[.bool j5, .slice none 0 0]) ?_ 1 _ rfl; refine blk_put (cs := #[.bool false, .slice none 0 0]) ?_ 0 _ rfl; exact jF.out) Try.underlying25 rfl (by kernel_rfl)) rfl ?_
 exact ⟨_, by rfl, by exact Kd.R_mono (Kd.R_far (p := ⟨jO, 1, none⟩) (Kd.R_far (p := ⟨jO, 0, none⟩) (Kd.R_types qz.out jF.out (by decide)) (fun _ hk => hk.2) (.bool j5)) (fun _ hk => hk.2) (.slice q3 ql.length q4)) (fun _ hk => trivial), by repeat ((with_reducible first | exact HB.out | refine below_set ?_ q2.out))⟩

/-! ### whole_neg: function 55 -/
def whole_neg.f (k : Nat) (a0_0 : Bool) (l0_1 : List Int) : Option (Bool × List Int) := (whole_norm.f k (!a0_0) l0_1).bind fun bt569 => (some (bt569.1, bt569.2))
theorem whole_neg.mono : ∀ a0 a1 k, LeO (whole_neg.f k a0 a1) (whole_neg.f (k + 1) a0 a1) := by
 intro a0 a1 k
 unfold whole_neg.f
 repeat' first
   | (with_reducible exact whole_norm.mono _ _ _)
   | (with_reducible exact LeO.refl _)
   | (with_reducible refine LeO.bind ?_ (fun _ => ?_))
set_option maxHeartbeats 8000000 in
set_option maxRecDepth 100000 in
theorem whole_neg.calls (k : Nat) (a0_0 : Bool) (jf : Option Addr) (jg : Nat) (l0_1 : List Int) (r1 : Bool) (r2 : List Int) (w : World) (hr0_1 : Kd.C (Kd.int .u32) w jf l0_1.length l0_1) (hc0_1 : l0_1.length ≤ jg) (h : whole_neg.f k a0_0 l0_1 = some (r1, r2)) :
  Calls Try.prog 55 #[.agg #[.bool a0_0, .slice jf l0_1.length jg]] w fun e w' => ∃ v1_ : Value, e = .returned (.agg #[.bool r1, v1_]) ∧ Kd.R (Kd.int .u32) 78 w' w.heap.size (fun _ => True) v1_ r2 ∧ Below w.heap.size w w' := by
 have hu25 := Try.underlying25
 have jy := am hr0_1
 have jz := am hc0_1
 clear hr0_1 hc0_1
 have HB := am (Below.refl w.heap.size w)
 have H : ((whole_norm.f k (!a0_0) l0_1).bind fun bt569 => (some (bt569.1, bt569.2))) = some (r1, r2) := h
 clear h
 obtain ⟨⟨j6, qm⟩, A2, H⟩ := bindE H
 replace H : (some (j6, qm)) = some (r1, r2) := H
 simp only [Option.some.injEq, Prod.mk.injEq] at H
 obtain ⟨rfl, rfl⟩ := H
 go_enter Try.func55, Try.ntmps55
 go_wp2_with (first | ((with_reducible refine gate_dst (N := 1) rfl ?_); refine box_event ?hg (N := 1) ?hd (cs := #[.bool a0_0, .slice jf l0_1.length jg]) (t := 25) ?hr ?_; (case hd => rfl); (case hg => rfl); (case hr => (go_simp; done)); intro qA hg w3 hbox hb; have jB := am hbox; have uB := am (gel hg HB.out); have uC := am (gel hg HB.out); replace HB := am (below_step HB.out hb); clear hb hbox hg) | ((with_reducible refine gate_dst (N := 2) rfl ?_); refine box_event ?hg (N := 2) ?hd (cs := #[.bool false, .slice none 0 0]) (t := 25) ?hr ?_; (case hd => rfl); (case hg => rfl); (case hr => (go_simp; done)); intro jP hg w4 hbox hb; have jG := am hbox; have uD := am (gel hg HB.out); have q5 := am (gel hg HB.out); replace HB := am (below_step HB.out hb); have jY := am (nel hg jB.out); have jZ := am (ner hg jB.out); replace jB := am (blk_below jB.out hb); clear hb hbox hg; have z7 := jY.out; have z8 := jZ.out; have qI : w4.cell? ⟨qA, 0, none⟩ = some (.bool a0_0) := (blk_cell jB.out 0).trans rfl; have qJ : w4.cell? ⟨qA, 1, none⟩ = some (.slice jf l0_1.length jg) := (blk_cell jB.out 1).trans rfl; have qK := blk_frozen jB.out 0; have qL := blk_frozen jB.out 1) | ((with_reducible refine gate_callee (f := 47) rfl ?_); refine goesL_ (some 8) rfl rfl Try.func47 (by kernel_rfl) rfl #[.bool (!a0_0), .slice jf l0_1.length jg] rfl (by (try simp only [List.map_toArray, List.map_cons, List.map_nil]); rfl) ?_; (with_reducible refine (whole_norm.calls k (!a0_0) _ _ l0_1 j6 qm _ ?side1 ?side2 A2.out).mono ?_); (case side1 => repeat (exact (Kd.C_below jy.out HB.out))); (case side2 => exact jz.out); rintro e w7 ⟨u4, rfl, ho0, hb⟩; refine ⟨_, rfl, ?_⟩; have qB := am (Kd.R_lower ho0 (below_size HB.out)); replace jB := am (blk_below jB.out hb); replace jG := am (blk_below jG.out hb); replace HB := am (below_step HB.out hb); (try clear hb); (try clear ho0); have qM : w7.cell? ⟨jP, 0, none⟩ = some (.bool false) := (blk_cell jG.out 0).trans rfl; have qN : w7.cell? ⟨jP, 1, none⟩ = some (.slice none 0 0) := (blk_cell jG.out 1).trans rfl; have qO := blk_frozen jG.out 0; have qP := blk_frozen jG.out 1; obtain ⟨q6, q7, eo9⟩ := Kd.R_slice qB.out; subst eo9))
 refine bodyPost_ret (results_cell_row rfl _ _ jP 25 #[.bool j6, .slice q6 qm.length q7] (0, 0) _ rfl (by refine blk_put (cs := #[.bool j6, .slice none 0 0]) ?_ 1 _ rfl; refine blk_put (cs := #[.bool false, .slice none 0 0]) ?_ 0 _ rfl; exact jG.out) Try.underlying25 rfl (by kernel_rfl)) rfl ?_
 exact ⟨_, by rfl, by exact Kd.R_mono (Kd.R_far (p := ⟨jP, 1, none⟩) (Kd.R_far (p := ⟨jP, 0, none⟩) (Kd.R_types qB.out jG.out (by decide)) (fun _ hk => hk.2) (.bool j6)) (fun _ hk => hk.2) (.slice q6 qm.length q7)) (fun _ hk => trivial), by repeat ((with_reducible first | exact HB.out | refine below_set ?_ q5.out))⟩

/-! ### whole_Sub: function 21 -/
def whole_Sub.f (k : Nat) (a0_0 : Bool) (l0_1 : List Int) (a1_0 : Bool) (l1_1 : List Int) : Option (Bool × List Int) := (whole_neg.f k a1_0 l1_1).bind fun bt576 => ((whole_add.f k a0_0 l0_1 bt576.1 bt576.2).bind fun bt580 => (some (bt580.1, bt580.2)))
theorem whole_Sub.mono : ∀ a0 a1 a2 a3 k, LeO (whole_Sub.f k a0 a1 a2 a3) (whole_Sub.f (k + 1) a0 a1 a2 a3) := by
 intro a0 a1 a2 a3 k
 unfold whole_Sub.f
 repeat' first
   | (with_reducible exact whole_add.mono _ _ _ _ _)
   | (with_reducible exact whole_neg.mono _ _ _)
   | (with_reducible exact LeO.refl _)
   | (with_reducible refine LeO.bind ?_ (fun _ => ?_))
set_option maxHeartbeats 8000000 in
set_option maxRecDepth 100000 in
theorem whole_Sub.calls (k : Nat) (a0_0 : Bool) (jf : Option Addr) (jg : Nat) (l0_1 : List Int) (a1_0 : Bool) (jj : Option Addr) (jk : Nat) (l1_1 : List Int) (r1 : Bool) (r2 : List Int) (w : World) (hr0_1 : Kd.C (Kd.int .u32) w jf l0_1.length l0_1) (hc0_1 : l0_1.length ≤ jg) (hr1_1 : Kd.C (Kd.int .u32) w jj l1_1.length l1_1) (hc1_1 : l1_1.length ≤ jk) (h : whole_Sub.f k a0_0 l0_1 a1_0 l1_1 = some (r1, r2)) :
  Calls Try.prog 21 #[.agg #[.bool a0_0, .slice jf l0_1.length jg], .agg #[.bool a1_0, .slice jj l1_1.length jk]] w fun e w' => ∃ v1_ : Value, e = .returned (.agg #[.bool r1, v1_]) ∧ Kd.R (Kd.int .u32) 78 w' w.heap.size (fun _ => True) v1_ r2 ∧ Below w.heap.size w w' := by
 have hu25 := Try.underlying25
 have jy := am hr0_1
 have jz := am hc0_1
 clear hr0_1 hc0_1
 have jD := am hr1_1
 have jE := am hc1_1
 clear hr1_1 hc1_1
 have HB := am (Below.refl w.heap.size w)
 have H : ((whole_neg.f k a1_0 l1_1).bind fun bt576 => ((whole_add.f k a0_0 l0_1 bt576.1 bt576.2).bind fun bt580 => (some (bt580.1, bt580.2)))) = some (r1, r2) := h
 clear h
 obtain ⟨⟨qQ, qR⟩, A3, H⟩ := bindE H
 dsimp only at H
 obtain ⟨⟨j7, qn⟩, A4, H⟩ := bindE H
 replace H : (some (j7, qn)) = some (r1, r2) := H
 simp only [Option.some.injEq, Prod.mk.injEq] at H
 obtain ⟨rfl, rfl⟩ := H
 go_enter Try.func21, Try.ntmps21
 try go_wp2_with (first | ((with_reducible refine gate_dst (N := 2) rfl ?_); refine box_event ?hg (N := 2) ?hd (cs := #[.bool a0_0, .slice jf l0_1.length jg]) (t := 25) ?hr ?_; (case hd => rfl); (case hg => rfl); (case hr => (go_simp; done)); intro qC hg w5 hbox hb; have ji := am hbox; have uE := am (gel hg HB.out); have uF := am (gel hg HB.out); replace HB := am (below_step HB.out hb); clear hb hbox hg) | ((with_reducible refine gate_dst (N := 3) rfl ?_); refine box_event ?hg (N := 3) ?hd (cs := #[.bool a1_0, .slice jj l1_1.length jk]) (t := 25) ?hr ?_; (case hd => rfl); (case hg => rfl); (case hr => (go_simp; done)); intro qD hg w6 hbox hb; have jn := am hbox; have uG := am (gel hg HB.out); have uH := am (gel hg HB.out); replace HB := am (below_step HB.out hb); have qS := am (nel hg ji.out); have qT := am (ner hg ji.out); replace ji := am (blk_below ji.out hb); clear hb hbox hg) | ((with_reducible refine gate_dst (N := 4) rfl ?_); refine box_event ?hg (N := 4) ?hd (cs := #[.bool false, .slice none 0 0]) (t := 25) ?hr ?_; (case hd => rfl); (case hg => rfl); (case hr => (go_simp; done)); intro jw hg w7 hbox hb; have jx := am hbox; have uI := am (gel hg HB.out); have q8 := am (gel hg HB.out); replace HB := am (below_step HB.out hb); have jo := am (nel hg ji.out); have jK := am (ner hg ji.out); replace ji := am (blk_below ji.out hb); have jp := am (nel hg jn.out); have jL := am (ner hg jn.out); replace jn := am (blk_below jn.out hb); clear hb hbox hg))
 replace ji := am (blk_drew ji.out)
 replace jn := am (blk_drew jn.out)
 replace jx := am (blk_drew jx.out)
 replace HB := am (below_drew1 HB.out)
 refine start_ (n := 5) (S := fun w' => w'.cell? ⟨qC, 0, none⟩ = some (.bool a0_0) ∧ w'.cell? ⟨qC, 1, none⟩ = some (.slice jf l0_1.length jg) ∧ w'.cell? ⟨qD, 0, none⟩ = some (.bool a1_0) ∧ w'.cell? ⟨qD, 1, none⟩ = some (.slice jj l1_1.length jk)) (ds := []) #[false, false, false, false, false] (by kernel_rfl) rfl rfl ⟨(blk_cell ji.out 0).trans rfl, (blk_cell ji.out 1).trans rfl, (blk_cell jn.out 0).trans rfl, (blk_cell jn.out 1).trans rfl⟩ (fun hHeld => ?_)
 generalize w7.drew = w8 at ji jn jx HB hHeld ⊢
 refine take_ (i := 0) (N := some 5) (v := ?_) (a' := ?_) #[true, false, false, false, false] rfl rfl (by kernel_rfl) (fun _ _ _ h => h) (Or.inl ⟨by rfl, ?_⟩) hHeld ?_ ?_
 rotate_left
 ·
  rintro w' ⟨s0, s1, s2, s3⟩
  go_simp
  with_reducible rfl
 rotate_left
 ·
  simp only [Act.put, sI_, s0_, s1_, i64_w, i32_w]
  rfl
 refine take_ (i := 1) (N := some 6) (v := ?_) (a' := ?_) #[true, true, false, false, false] rfl rfl (by kernel_rfl) (fun _ _ _ h => h) (Or.inl ⟨by rfl, ?_⟩) hHeld ?_ ?_
 rotate_left
 ·
  rintro w' ⟨s0, s1, s2, s3⟩
  go_simp
  with_reducible rfl
 rotate_left
 ·
  simp only [Act.put, sI_, s0_, s1_, i64_w, i32_w]
  rfl
 refine one_ (i := 2) (N := some 7) #[true, true, true, false, false] rfl rfl (by kernel_rfl) (by decide) (fun K hK => ?_)
 refine goes_ Try.func55 (by kernel_rfl) rfl #[.agg #[.bool a1_0, .slice jj l1_1.length jk]] (by rfl) rfl rfl (by (try simp only [List.map_toArray, List.map_cons, List.map_nil]); rfl) ?_
 with_reducible refine (whole_neg.calls k a1_0 _ _ l1_1 qQ qR _ ?side1 ?side2 A3.out).mono ?_
 (case side1 => repeat (exact (Kd.C_below jD.out HB.out)))
 (case side2 => exact jE.out)
 rintro e w9 ⟨u5, rfl, ho0, hb⟩
 refine ⟨_, rfl, ?_⟩
 have jM := am (Kd.R_lower ho0 (below_size HB.out))
 replace ji := am (blk_below ji.out hb)
 replace jn := am (blk_below jn.out hb)
 replace jx := am (blk_below jx.out hb)
 replace HB := am (below_step HB.out hb)
 try clear hb
 try clear ho0
 obtain ⟨z9, ua, eo10⟩ := Kd.R_slice jM.out
 (subst eo10)
 refine hK.out _ _ ⟨(blk_cell ji.out 0).trans rfl, (blk_cell ji.out 1).trans rfl, (blk_cell jn.out 0).trans rfl, (blk_cell jn.out 1).trans rfl⟩ (fun hHeld => ?_)
 clear hK K
 refine norm_ (a' := ?_) ?_ ?_
 rotate_left
 ·
  show Act.put _ (some 7) _ = _
  simp only [Act.put, sI_, s0_, s1_, i64_w, i32_w]
  rfl
 refine one_ (i := 3) (N := some 8) #[true, true, true, true, false] rfl rfl (by kernel_rfl) (by decide) (fun K hK => ?_)
 refine goes_ Try.func48 (by kernel_rfl) rfl #[.agg #[.bool a0_0, .slice jf l0_1.length jg], .agg #[.bool qQ, .slice z9 qR.length ua]] (by rfl) rfl rfl (by (try simp only [List.map_toArray, List.map_cons, List.map_nil]); rfl) ?_
 with_reducible refine (whole_add.calls k a0_0 _ _ l0_1 qQ _ _ qR j7 qn _ ?side1 ?side2 ?side3 ?side4 A4.out).mono ?_
 (case side1 => repeat (exact (Kd.C_below jy.out HB.out)))
 (case side2 => exact jz.out)
 (case side3 => exact (Kd.R_reads' jM.out).2.2)
 (case side4 => exact (Kd.R_reads' jM.out).2.1)
 rintro e uJ ⟨u6, rfl, ho0, hb⟩
 refine ⟨_, rfl, ?_⟩
 have qE := am (Kd.R_lower (Kd.R_new' ho0 (Kd.R_lt jM.out)) (below_size HB.out))
 replace jM := am (Kd.R_elder' jM.out (Kd.R_base ho0) hb)
 replace ji := am (blk_below ji.out hb)
 replace jn := am (blk_below jn.out hb)
 replace jx := am (blk_below jx.out hb)
 replace HB := am (below_step HB.out hb)
 try clear hb
 try clear ho0
 obtain ⟨q9, za, eo13⟩ := Kd.R_slice qE.out
 (subst eo13)
 refine hK.out _ _ ⟨(blk_cell ji.out 0).trans rfl, (blk_cell ji.out 1).trans rfl, (blk_cell jn.out 0).trans rfl, (blk_cell jn.out 1).trans rfl⟩ (fun hHeld => ?_)
 clear hK K
 refine norm_ (a' := ?_) ?_ ?_
 rotate_left
 ·
  show Act.put _ (some 8) _ = _
  simp only [Act.put, sI_, s0_, s1_, i64_w, i32_w]
  rfl
 refine one_ (i := 4) (N := none) #[true, true, true, true, true] rfl rfl (by kernel_rfl) (by decide) (fun K hK => ?_)
 have u7 : uJ.cell? ⟨jw, 0, none⟩ = some (.bool false) := (blk_cell jx.out 0).trans rfl
 have hfs12 := blk_frozen jx.out 0
 have hns12_0 := jo.out
 have hns12_1 := jp.out
 have hms12_0 := jK.out
 have hms12_1 := jL.out
 have u8 : uJ.cell? ⟨jw, 1, none⟩ = some (.slice none 0 0) := (blk_cell jx.out 1).trans rfl
 have hfs14 := blk_frozen jx.out 1
 have hns14_0 := jo.out
 have hns14_1 := jp.out
 have hms14_0 := jK.out
 have hms14_1 := jL.out
 refine skip_ (w1 := ?_) (by rfl) rfl ?_ ?_
 rotate_left
 ·
  go_simp
  rfl
 refine hK.out _ _ ⟨((cell_far (p := ⟨jw, _, none⟩) jo.out _).trans (((cell_far (p := ⟨jw, _, none⟩) jo.out _).trans (hHeld.1)))), ((cell_far (p := ⟨jw, _, none⟩) jo.out _).trans (((cell_far (p := ⟨jw, _, none⟩) jo.out _).trans (hHeld.2.1)))), ((cell_far (p := ⟨jw, _, none⟩) jp.out _).trans (((cell_far (p := ⟨jw, _, none⟩) jp.out _).trans (hHeld.2.2.1)))), ((cell_far (p := ⟨jw, _, none⟩) jp.out _).trans (((cell_far (p := ⟨jw, _, none⟩) jp.out _).trans (hHeld.2.2.2))))⟩ (fun hHeld => ?_)
 clear hK K
 refine done_ (by kernel_rfl) ?_
 try go_wp2
 refine bodyPost_ret (results_cell_row rfl _ _ jw 25 #[.bool j7, .slice q9 qn.length za] (0, 0) _ rfl (by refine blk_put (cs := #[.bool j7, .slice none 0 0]) ?_ 1 _ rfl; refine blk_put (cs := #[.bool false, .slice none 0 0]) ?_ 0 _ rfl; exact jx.out) Try.underlying25 rfl (by kernel_rfl)) rfl ?_
 exact ⟨_, by rfl, by exact Kd.R_mono (Kd.R_far (p := ⟨jw, 1, none⟩) (Kd.R_far (p := ⟨jw, 0, none⟩) (Kd.R_types qE.out jx.out (by decide)) (fun _ hk => hk.2) (.bool j7)) (fun _ hk => hk.2) (.slice q9 qn.length za)) (fun _ hk => trivial), by repeat ((with_reducible first | exact HB.out | refine below_set ?_ q8.out))⟩

/-! ### whole_Neg: function 25 -/
def whole_Neg.f (k : Nat) (a0_0 : Bool) (l0_1 : List Int) : Option (Bool × List Int) := (whole_neg.f k a0_0 l0_1).bind fun bt641 => (some (bt641.1, bt641.2))
theorem whole_Neg.mono : ∀ a0 a1 k, LeO (whole_Neg.f k a0 a1) (whole_Neg.f (k + 1) a0 a1) := by
 intro a0 a1 k
 unfold whole_Neg.f
 repeat' first
   | (with_reducible exact whole_neg.mono _ _ _)
   | (with_reducible exact LeO.refl _)
   | (with_reducible refine LeO.bind ?_ (fun _ => ?_))
set_option maxHeartbeats 8000000 in
set_option maxRecDepth 100000 in
theorem whole_Neg.calls (k : Nat) (a0_0 : Bool) (jf : Option Addr) (jg : Nat) (l0_1 : List Int) (r1 : Bool) (r2 : List Int) (w : World) (hr0_1 : Kd.C (Kd.int .u32) w jf l0_1.length l0_1) (hc0_1 : l0_1.length ≤ jg) (h : whole_Neg.f k a0_0 l0_1 = some (r1, r2)) :
  Calls Try.prog 25 #[.agg #[.bool a0_0, .slice jf l0_1.length jg]] w fun e w' => ∃ v1_ : Value, e = .returned (.agg #[.bool r1, v1_]) ∧ Kd.R (Kd.int .u32) 78 w' w.heap.size (fun _ => True) v1_ r2 ∧ Below w.heap.size w w' := by
 have hu25 := Try.underlying25
 have jy := am hr0_1
 have jz := am hc0_1
 clear hr0_1 hc0_1
 have HB := am (Below.refl w.heap.size w)
 have H : ((whole_neg.f k a0_0 l0_1).bind fun bt641 => (some (bt641.1, bt641.2))) = some (r1, r2) := h
 clear h
 obtain ⟨⟨j8, qo⟩, A2, H⟩ := bindE H
 replace H : (some (j8, qo)) = some (r1, r2) := H
 simp only [Option.some.injEq, Prod.mk.injEq] at H
 obtain ⟨rfl, rfl⟩ := H
 go_enter Try.func25, Try.ntmps25
 go_wp2_with (first | ((with_reducible refine gate_dst (N := 1) rfl ?_); refine box_event ?hg (N := 1) ?hd (cs := #[.bool a0_0, .slice jf l0_1.length jg]) (t := 25) ?hr ?_; (case hd => rfl); (case hg => rfl); (case hr => (go_simp; done)); intro qF hg w3 hbox hb; have jC := am hbox; have uK := am (gel hg HB.out); have uL := am (gel hg HB.out); replace HB := am (below_step HB.out hb); clear hb hbox hg) | ((with_reducible refine gate_dst (N := 2) rfl ?_); refine box_event ?hg (N := 2) ?hd (cs := #[.bool false, .slice none 0 0]) (t := 25) ?hr ?_; (case hd => rfl); (case hg => rfl); (case hr => (go_simp; done)); intro jQ hg w4 hbox hb; have jH := am hbox; have uM := am (gel hg HB.out); have zb := am (gel hg HB.out); replace HB := am (below_step HB.out hb); have j0 := am (nel hg jC.out); have j1 := am (ner hg jC.out); replace jC := am (blk_below jC.out hb); clear hb hbox hg; have z7 := j0.out; have z8 := j1.out; have qI : w4.cell? ⟨qF, 0, none⟩ = some (.bool a0_0) := (blk_cell jC.out 0).trans rfl; have qJ : w4.cell? ⟨qF, 1, none⟩ = some (.slice jf l0_1.length jg) := (blk_cell jC.out 1).trans rfl; have qK := blk_frozen jC.out 0; have qL := blk_frozen jC.out 1) | ((with_reducible refine gate_callee (f := 55) rfl ?_); refine goesL_ (some 4) rfl rfl Try.func55 (by kernel_rfl) rfl #[.agg #[.bool a0_0, .slice jf l0_1.length jg]] rfl (by (try simp only [List.map_toArray, List.map_cons, List.map_nil]); rfl) ?_; (with_reducible refine (whole_neg.calls k a0_0 _ _ l0_1 j8 qo _ ?side1 ?side2 A2.out).mono ?_); (case side1 => repeat (exact (Kd.C_below jy.out HB.out))); (case side2 => exact jz.out); rintro e w7 ⟨u9, rfl, ho0, hb⟩; refine ⟨_, rfl, ?_⟩; have qG := am (Kd.R_lower ho0 (below_size HB.out)); replace jC := am (blk_below jC.out hb); replace jH := am (blk_below jH.out hb); replace HB := am (below_step HB.out hb); (try clear hb); (try clear ho0); have qM : w7.cell? ⟨jQ, 0, none⟩ = some (.bool false) := (blk_cell jH.out 0).trans rfl; have qN : w7.cell? ⟨jQ, 1, none⟩ = some (.slice none 0 0) := (blk_cell jH.out 1).trans rfl; have qO := blk_frozen jH.out 0; have qP := blk_frozen jH.out 1; obtain ⟨q6, q7, eo9⟩ := Kd.R_slice qG.out; subst eo9))
 refine bodyPost_ret (results_cell_row rfl _ _ jQ 25 #[.bool j8, .slice q6 qo.length q7] (0, 0) _ rfl (by refine blk_put (cs := #[.bool j8, .slice none 0 0]) ?_ 1 _ rfl; refine blk_put (cs := #[.bool false, .slice none 0 0]) ?_ 0 _ rfl; exact jH.out) Try.underlying25 rfl (by kernel_rfl)) rfl ?_
 exact ⟨_, by rfl, by exact Kd.R_mono (Kd.R_far (p := ⟨jQ, 1, none⟩) (Kd.R_far (p := ⟨jQ, 0, none⟩) (Kd.R_types qG.out jH.out (by decide)) (fun _ hk => hk.2) (.bool j8)) (fun _ hk => hk.2) (.slice q6 qo.length q7)) (fun _ hk => trivial), by repeat ((with_reducible first | exact HB.out | refine below_set ?_ zb.out))⟩

end Go.Proofs.Ytmfmojldebhboaa.ZWhole
