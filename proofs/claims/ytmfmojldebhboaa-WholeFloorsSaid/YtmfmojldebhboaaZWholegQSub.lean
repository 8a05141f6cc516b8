-- printed by zprint.py, a program of this session's
import Derived.Test.YtmfmojldebhboaaZWhole0
import Derived.Test.YtmfmojldebhboaaZWholegQAdd
import Derived.Test.YtmfmojldebhboaaZWholegQOf
import Derived.Test.YtmfmojldebhboaaZWholegRAdd
namespace Go.Proofs.Ytmfmojldebhboaa.ZWhole
open Go.RowKit Go.Proofs.YtmfmojldebhboaaW.PrintWords Go.Proofs.YtmfmojldebhboaaW.PrintLast Go.Proofs.YtmfmojldebhboaaW.PrintMore
attribute [local go_sem] Go.Instr.field Go.asAgg
set_option linter.unusedVariables false
set_option linter.unusedSimpArgs false

/-! ### zelligeref04_Sub: function 22 -/
def zelligeref04_Sub.f (k : Nat) (a0_0 : Int) (l0_1 : List Int) (a1_0 : Int) (l1_1 : List Int) : Option (Int × List Int) := (zelligeref04_Neg.f a1_0 l1_1).bind fun bt589 => ((zelligeref04_Add.f k a0_0 l0_1 bt589.1 bt589.2).bind fun bt593 => (some (bt593.1, bt593.2)))
theorem zelligeref04_Sub.mono : ∀ a0 a1 a2 a3 k, LeO (zelligeref04_Sub.f k a0 a1 a2 a3) (zelligeref04_Sub.f (k + 1) a0 a1 a2 a3) := by
 intro a0 a1 a2 a3 k
 unfold zelligeref04_Sub.f
 repeat' first
   | (with_reducible exact zelligeref04_Add.mono _ _ _ _ _)
   | (with_reducible exact LeO.refl _)
   | (with_reducible refine LeO.bind ?_ (fun _ => ?_))
set_option maxHeartbeats 8000000 in
set_option maxRecDepth 100000 in
theorem zelligeref04_Sub.calls (k : Nat) (a0_0 : Int) (P0_1_ : Nat → Prop) (jo : Option Addr) (jp : Nat) (l0_1 : List Int) (a1_0 : Int) (P1_1_ : Nat → Prop) (jq : Option Addr) (jr : Nat) (l1_1 : List Int) (r1 : Int) (r2 : List Int) (w : World) (j5 : Kd.V (Kd.int .i64) 3 w w.heap.size (fun k_ => P0_1_ k_) (.slice jo l0_1.length jp) l0_1) (j6 : Kd.V (Kd.int .i64) 3 w w.heap.size (fun k_ => P1_1_ k_) (.slice jq l1_1.length jr) l1_1) (h : zelligeref04_Sub.f k a0_0 l0_1 a1_0 l1_1 = some (r1, r2)) :
  Calls Try.prog 22 #[.agg #[.int .i64 a0_0, .slice jo l0_1.length jp], .agg #[.int .i64 a1_0, .slice jq l1_1.length jr]] w fun e w' => ∃ v1_ : Value, e = .returned (.agg #[.int .i64 r1, v1_]) ∧ Kd.V (Kd.int .i64) 3 w' w.heap.size (fun k_ => ((P0_1_ k_ ∨ P1_1_ k_) ∨ w.heap.size ≤ k_)) v1_ r2 ∧ Below w.heap.size w w' := by
 have hu33 := Try.underlying33
 have jl := am (show Kd.V (Kd.int .i64) 3 w w.heap.size (fun k_ => ((P0_1_ k_ ∨ P1_1_ k_) ∨ w.heap.size ≤ k_)) (.slice jo l0_1.length jp) l0_1 from Kd.V_mono j5 (fun k_ hk => .inl (.inl hk)))
 have jm := am (show Kd.V (Kd.int .i64) 3 w w.heap.size (fun k_ => ((P0_1_ k_ ∨ P1_1_ k_) ∨ w.heap.size ≤ k_)) (.slice jq l1_1.length jr) l1_1 from Kd.V_mono j6 (fun k_ hk => .inl (.inr hk)))
 have HB := am (Below.refl w.heap.size w)
 have H : ((zelligeref04_Neg.f a1_0 l1_1).bind fun bt589 => ((zelligeref04_Add.f k a0_0 l0_1 bt589.1 bt589.2).bind fun bt593 => (some (bt593.1, bt593.2)))) = some (r1, r2) := h
 clear h
 obtain ⟨⟨jZ, j0⟩, A3, H⟩ := bindE H
 dsimp only at H
 obtain ⟨⟨jF, jR⟩, A4, H⟩ := bindE H
 replace H : (some (jF, jR)) = some (r1, r2) := H
 simp only [Option.some.injEq, Prod.mk.injEq] at H
 obtain ⟨rfl, rfl⟩ := H
 go_enter Try.func22, Try.ntmps22
 try go_wp2_with (first | ((with_reducible refine gate_dst (N := 2) rfl ?_); refine box_event ?hg (N := 2) ?hd (cs := #[.int .i64 a0_0, .slice jo l0_1.length jp]) (t := 33) ?hr ?_; (case hd => rfl); (case hg => rfl); (case hr => (go_simp; done)); intro jt hg w5 hbox hb; replace jl := am (Kd.V_below (Kd.V_elderB jl.out jt (Nat.le_of_eq hg.symm)) hb); replace jm := am (Kd.V_below (Kd.V_elderB jm.out jt (Nat.le_of_eq hg.symm)) hb); have jb := am hbox; have qn := am (gel hg HB.out); have qo := am (gel hg HB.out); replace HB := am (below_step HB.out hb); clear hb hbox hg) | ((with_reducible refine gate_dst (N := 3) rfl ?_); refine box_event ?hg (N := 3) ?hd (cs := #[.int .i64 a1_0, .slice jq l1_1.length jr]) (t := 33) ?hr ?_; (case hd => rfl); (case hg => rfl); (case hr => (go_simp; done)); intro ju hg w6 hbox hb; replace jl := am (Kd.V_below (Kd.V_elderB jl.out ju (Nat.le_of_eq hg.symm)) hb); replace jm := am (Kd.V_below (Kd.V_elderB jm.out ju (Nat.le_of_eq hg.symm)) hb); have je := am hbox; have qp := am (gel hg HB.out); have qq := am (gel hg HB.out); replace HB := am (below_step HB.out hb); have j1 := am (nel hg jb.out); have j2 := am (ner hg jb.out); replace jb := am (blk_below jb.out hb); clear hb hbox hg) | ((with_reducible refine gate_dst (N := 4) rfl ?_); refine box_event ?hg (N := 4) ?hd (cs := #[.int .i64 0, .slice none 0 0]) (t := 33) ?hr ?_; (case hd => rfl); (case hg => rfl); (case hr => (go_simp; done)); intro jd hg w7 hbox hb; replace jl := am (Kd.V_below (Kd.V_elderB jl.out jd (Nat.le_of_eq hg.symm)) hb); replace jm := am (Kd.V_below (Kd.V_elderB jm.out jd (Nat.le_of_eq hg.symm)) hb); have jn := am hbox; have qr := am (gel hg HB.out); have j7 := am (gel hg HB.out); replace HB := am (below_step HB.out hb); have jg := am (nel hg jb.out); have jx := am (ner hg jb.out); replace jb := am (blk_below jb.out hb); have jh := am (nel hg je.out); have jy := am (ner hg je.out); replace je := am (blk_below je.out hb); clear hb hbox hg))
 replace jl := am (Kd.V_drew jl.out)
 replace jm := am (Kd.V_drew jm.out)
 replace jb := am (blk_drew jb.out)
 replace je := am (blk_drew je.out)
 replace jn := am (blk_drew jn.out)
 replace HB := am (below_drew1 HB.out)
 refine start_ (n := 5) (S := fun w' => w'.cell? ⟨jt, 0, none⟩ = some (.int .i64 a0_0) ∧ w'.cell? ⟨jt, 1, none⟩ = some (.slice jo l0_1.length jp) ∧ w'.cell? ⟨ju, 0, none⟩ = some (.int .i64 a1_0) ∧ w'.cell? ⟨ju, 1, none⟩ = some (.slice jq l1_1.length jr)) (ds := []) #[false, false, false, false, false] (by kernel_rfl) rfl rfl ⟨(blk_cell jb.out 0).trans rfl, (blk_cell jb.out 1).trans rfl, (blk_cell je.out 0).trans rfl, (blk_cell je.out 1).trans rfl⟩ (fun hHeld => ?_)
 generalize w7.drew = w8 at jl jm jb je jn HB hHeld ⊢
 refine take_ (i := 0) (N := some 5) (v := ?_) (a' := ?_) #[true, false, false, false, false] rfl rfl (by kernel_rfl) (fun _ _ _ h => h) (Or.inl ⟨by rfl, ?_⟩) hHeld ?_ ?_
 rotate_left
 ·
  rintro w' ⟨s0, s1, s2, s3⟩
  go_simp
  with_reducible rfl
 rotate_left
 ·
  simp only [Act.put, sI_, s0_, s1_, i64_w, i32_w]
  rfl
 refine take_ (i := 1) (N := some 6) (v := ?_) (a' := ?_) #[true, true, false, false, false] rfl rfl (by kernel_rfl) (fun _ _ _ h => h) (Or.inl ⟨by rfl, ?_⟩) hHeld ?_ ?_
 rotate_left
 ·
  rintro w' ⟨s0, s1, s2, s3⟩
  go_simp
  with_reducible rfl
 rotate_left
 ·
  simp only [Act.put, sI_, s0_, s1_, i64_w, i32_w]
  rfl
 refine one_ (i := 2) (N := some 7) #[true, true, true, false, false] rfl rfl (by kernel_rfl) (by decide) (fun K hK => ?_)
 refine goes_ Try.func26 (by kernel_rfl) rfl #[.agg #[.int .i64 a1_0, .slice jq l1_1.length jr]] (by rfl) rfl rfl (by (try simp only [List.map_toArray, List.map_cons, List.map_nil]); rfl) ?_
 with_reducible refine (zelligeref04_Neg.calls a1_0 (fun k_ => (((((P0_1_ k_ ∨ P1_1_ k_) ∨ w.heap.size ≤ k_) ∧ k_ ≠ jt) ∧ k_ ≠ ju) ∧ k_ ≠ jd)) _ _ l1_1 jZ j0 _ ?side1 A3.out).mono ?_
 (case side1 => exact jm.out)
 rintro e w9 ⟨qz, rfl, ho0, hb⟩
 refine ⟨_, rfl, ?_⟩
 replace jl := am (Kd.V_below jl.out hb)
 replace jm := am (Kd.V_below jm.out hb)
 have jC := am (Kd.V_lower (Kd.V_mono (ok' := fun k_ => ((P0_1_ k_ ∨ P1_1_ k_) ∨ w.heap.size ≤ k_) ∧ k_ ≠ jt ∧ k_ ≠ ju ∧ k_ ≠ jd) ho0 (fun k_ hk_ => ⟨Or.elim hk_ (fun hs_ => hs_.1.1.1) (fun hn_ => (.inr (Nat.le_trans (below_size HB.out) hn_))), Or.elim hk_ (fun hs_ => hs_.1.1.2) (fun hn_ => (Kd.freshB jb.out k_ hn_)), Or.elim hk_ (fun hs_ => hs_.1.2) (fun hn_ => (Kd.freshB je.out k_ hn_)), Or.elim hk_ (fun hs_ => hs_.2) (fun hn_ => (Kd.freshB jn.out k_ hn_))⟩)) (below_size HB.out))
 replace jb := am (blk_below jb.out hb)
 replace je := am (blk_below je.out hb)
 replace jn := am (blk_below jn.out hb)
 replace HB := am (below_step HB.out hb)
 try clear hb
 try clear ho0
 obtain ⟨jS, jT, eo10⟩ := Kd.V_slice jC.out
 (subst eo10)
 refine hK.out _ _ ⟨(blk_cell jb.out 0).trans rfl, (blk_cell jb.out 1).trans rfl, (blk_cell je.out 0).trans rfl, (blk_cell je.out 1).trans rfl⟩ (fun hHeld => ?_)
 clear hK K
 refine norm_ (a' := ?_) ?_ ?_
 rotate_left
 ·
  show Act.put _ (some 7) _ = _
  simp only [Act.put, sI_, s0_, s1_, i64_w, i32_w]
  rfl
 refine one_ (i := 3) (N := some 8) #[true, true, true, true, false] rfl rfl (by kernel_rfl) (by decide) (fun K hK => ?_)
 refine goes_ Try.func20 (by kernel_rfl) rfl #[.agg #[.int .i64 a0_0, .slice jo l0_1.length jp], .agg #[.int .i64 jZ, .slice jS j0.length jT]] (by rfl) rfl rfl (by (try simp only [List.map_toArray, List.map_cons, List.map_nil]); rfl) ?_
 with_reducible refine (zelligeref04_Add.calls k a0_0 (fun k_ => (((((P0_1_ k_ ∨ P1_1_ k_) ∨ w.heap.size ≤ k_) ∧ k_ ≠ jt) ∧ k_ ≠ ju) ∧ k_ ≠ jd)) _ _ l0_1 jZ (fun k_ => (((P0_1_ k_ ∨ P1_1_ k_) ∨ w.heap.size ≤ k_) ∧ (k_ ≠ jt ∧ (k_ ≠ ju ∧ k_ ≠ jd)))) _ _ j0 jF jR _ ?side1 ?side2 A4.out).mono ?_
 (case side1 => exact jl.out)
 (case side2 => exact jC.out)
 rintro e j8 ⟨qA, rfl, ho0, hb⟩
 refine ⟨_, rfl, ?_⟩
 replace jl := am (Kd.V_below jl.out hb)
 replace jm := am (Kd.V_below jm.out hb)
 replace jC := am (Kd.V_below jC.out hb)
 have jV := am (Kd.V_lower (Kd.V_mono (ok' := fun k_ => ((P0_1_ k_ ∨ P1_1_ k_) ∨ w.heap.size ≤ k_) ∧ k_ ≠ jt ∧ k_ ≠ ju ∧ k_ ≠ jd) ho0 (fun k_ hk_ => ⟨Or.elim hk_ (fun hs_ => Or.elim hs_ (fun hs_ => hs_.1.1.1) (fun hs_ => hs_.1)) (fun hn_ => (.inr (Nat.le_trans (below_size HB.out) hn_))), Or.elim hk_ (fun hs_ => Or.elim hs_ (fun hs_ => hs_.1.1.2) (fun hs_ => hs_.2.1)) (fun hn_ => (Kd.freshB jb.out k_ hn_)), Or.elim hk_ (fun hs_ => Or.elim hs_ (fun hs_ => hs_.1.2) (fun hs_ => hs_.2.2.1)) (fun hn_ => (Kd.freshB je.out k_ hn_)), Or.elim hk_ (fun hs_ => Or.elim hs_ (fun hs_ => hs_.2) (fun hs_ => hs_.2.2.2)) (fun hn_ => (Kd.freshB jn.out k_ hn_))⟩)) (below_size HB.out))
 replace jb := am (blk_below jb.out hb)
 replace je := am (blk_below je.out hb)
 replace jn := am (blk_below jn.out hb)
 replace HB := am (below_step HB.out hb)
 try clear hb
 try clear ho0
 obtain ⟨jG, jH, eo13⟩ := Kd.V_slice jV.out
 (subst eo13)
 refine hK.out _ _ ⟨(blk_cell jb.out 0).trans rfl, (blk_cell jb.out 1).trans rfl, (blk_cell je.out 0).trans rfl, (blk_cell je.out 1).trans rfl⟩ (fun hHeld => ?_)
 clear hK K
 refine norm_ (a' := ?_) ?_ ?_
 rotate_left
 ·
  show Act.put _ (some 8) _ = _
  simp only [Act.put, sI_, s0_, s1_, i64_w, i32_w]
  rfl
 refine one_ (i := 4) (N := none) #[true, true, true, true, true] rfl rfl (by kernel_rfl) (by decide) (fun K hK => ?_)
 have qc : j8.cell? ⟨jd, 0, none⟩ = some (.int .i64 0) := (blk_cell jn.out 0).trans rfl
 have hfs12 := blk_frozen jn.out 0
 have hns12_0 := jg.out
 have hns12_1 := jh.out
 have hms12_0 := jx.out
 have hms12_1 := jy.out
 have qd : j8.cell? ⟨jd, 1, none⟩ = some (.slice none 0 0) := (blk_cell jn.out 1).trans rfl
 have hfs14 := blk_frozen jn.out 1
 have hns14_0 := jg.out
 have hns14_1 := jh.out
 have hms14_0 := jx.out
 have hms14_1 := jy.out
 refine skip_ (w1 := ?_) (by rfl) rfl ?_ ?_
 rotate_left
 ·
  go_simp
  rfl
 refine hK.out _ _ ⟨((cell_far (p := ⟨jd, _, none⟩) jg.out _).trans (((cell_far (p := ⟨jd, _, none⟩) jg.out _).trans (hHeld.1)))), ((cell_far (p := ⟨jd, _, none⟩) jg.out _).trans (((cell_far (p := ⟨jd, _, none⟩) jg.out _).trans (hHeld.2.1)))), ((cell_far (p := ⟨jd, _, none⟩) jh.out _).trans (((cell_far (p := ⟨jd, _, none⟩) jh.out _).trans (hHeld.2.2.1)))), ((cell_far (p := ⟨jd, _, none⟩) jh.out _).trans (((cell_far (p := ⟨jd, _, none⟩) jh.out _).trans (hHeld.2.2.2))))⟩ (fun hHeld => ?_)
 clear hK K
 refine done_ (by kernel_rfl) ?_
 try go_wp2
 refine bodyPost_ret (results_cell_row rfl _ _ jd 33 #[.int .i64 jF, .slice jG jR.length jH] (0, 0) _ rfl (by refine blk_put (cs := #[.int .i64 jF, .slice none 0 0]) ?_ 1 _ rfl; refine blk_put (cs := #[.int .i64 0, .slice none 0 0]) ?_ 0 _ rfl; exact jn.out) Try.underlying33 rfl (by kernel_rfl)) rfl ?_
 exact ⟨_, by rfl, by exact Kd.V_mono (Kd.V_far (p := ⟨jd, 1, none⟩) (Kd.V_far (p := ⟨jd, 0, none⟩) (Kd.V_mono jV.out (fun k_ hk => (⟨hk, hk.2.2.2⟩ : _ ∧ k_ ≠ jd))) (fun _ hk => hk.2) (.int .i64 jF)) (fun _ hk => hk.2) (.slice jG jR.length jH)) (fun _ hk => hk.1.1), by repeat ((with_reducible first | exact HB.out | refine below_set ?_ j7.out))⟩

/-! ### zelligeref04_Mul: function 24 -/
def zelligeref04_Mul.f (k : Nat) (a0_0 : Int) (l0_1 : List Int) (a1_0 : Int) (l1_1 : List Int) : Option (Int × List Int) := (zelligeref03_Mul.f k l0_1 l1_1).bind fun jB => ((zelligeref04_make1.f (wrap64 (a0_0 * a1_0)) jB).bind fun bt635 => (some (bt635.1, bt635.2)))
theorem zelligeref04_Mul.mono : ∀ a0 a1 a2 a3 k, LeO (zelligeref04_Mul.f k a0 a1 a2 a3) (zelligeref04_Mul.f (k + 1) a0 a1 a2 a3) := by
 intro a0 a1 a2 a3 k
 unfold zelligeref04_Mul.f
 repeat' first
   | (with_reducible exact zelligeref03_Mul.mono _ _ _)
   | (with_reducible exact LeO.refl _)
   | (with_reducible refine LeO.bind ?_ (fun _ => ?_))
def zelligeref04_Mul.T1 : Bool × List (List Nat × List Nat) := (true, [([], []), ([0], [0]), ([], []), ([2], [2]), ([1, 3], [1, 3]), ([], []), ([5], [5]), ([], []), ([7], [7]), ([6, 8], [6, 8]), ([4, 9, 9], [4, 9]), ([10, 10, 0, 1, 2, 3, 4, 5, 6, 7, 8, 9, 10], [10])])
def zelligeref04_Mul.B1 : List Nat := [0, 1, 0, 4, 15, 0, 32, 0, 128, 480, 1023, 2047]
theorem zelligeref04_Mul.tab1 : rtab .any (opsOf Try.f24 1) = zelligeref04_Mul.T1 := by kernel_rfl
theorem zelligeref04_Mul.bits1 : waitsOk zelligeref04_Mul.T1.2 zelligeref04_Mul.B1 = true := by kernel_rfl
set_option maxHeartbeats 8000000 in
set_option maxRecDepth 100000 in
theorem zelligeref04_Mul.calls (k : Nat) (a0_0 : Int) (jo : Option Addr) (jp : Nat) (l0_1 : List Int) (a1_0 : Int) (jq : Option Addr) (jr : Nat) (l1_1 : List Int) (r1 : Int) (r2 : List Int) (w : World) (hr0_1 : Kd.C (Kd.int .i64) w jo l0_1.length l0_1) (hc0_1 : l0_1.length ≤ jp) (hr1_1 : Kd.C (Kd.int .i64) w jq l1_1.length l1_1) (hc1_1 : l1_1.length ≤ jr) (h : zelligeref04_Mul.f k a0_0 l0_1 a1_0 l1_1 = some (r1, r2)) :
  Calls Try.prog 24 #[.agg #[.int .i64 a0_0, .slice jo l0_1.length jp], .agg #[.int .i64 a1_0, .slice jq l1_1.length jr]] w fun e w' => ∃ v1_ : Value, e = .returned (.agg #[.int .i64 r1, v1_]) ∧ Kd.V (Kd.int .i64) 3 w' w.heap.size (fun k_ => (w.heap.size ≤ k_)) v1_ r2 ∧ Below w.heap.size w w' := by
 have hu33 := Try.underlying33
 have jI := am hr0_1
 have jJ := am hc0_1
 clear hr0_1 hc0_1
 have jK := am hr1_1
 have jL := am hc1_1
 clear hr1_1 hc1_1
 have HB := am (Below.refl w.heap.size w)
 have H : ((zelligeref03_Mul.f k l0_1 l1_1).bind fun jB => ((zelligeref04_make1.f (wrap64 (a0_0 * a1_0)) jB).bind fun bt635 => (some (bt635.1, bt635.2)))) = some (r1, r2) := h
 clear h
 obtain ⟨jB, A3, H⟩ := bindE H
 obtain ⟨⟨jM, jU⟩, A4, H⟩ := bindE H
 replace H : (some (jM, jU)) = some (r1, r2) := H
 simp only [Option.some.injEq, Prod.mk.injEq] at H
 obtain ⟨rfl, rfl⟩ := H
 go_enter Try.func24, Try.ntmps24
 try go_wp2_with (first | ((with_reducible refine gate_dst (N := 2) rfl ?_); refine box_event ?hg (N := 2) ?hd (cs := #[.int .i64 a0_0, .slice jo l0_1.length jp]) (t := 33) ?hr ?_; (case hd => rfl); (case hg => rfl); (case hr => (go_simp; done)); intro jN hg w5 hbox hb; have ja := am hbox; have qs := am (gel hg HB.out); have qt := am (gel hg HB.out); replace HB := am (below_step HB.out hb); clear hb hbox hg) | ((with_reducible refine gate_dst (N := 3) rfl ?_); refine box_event ?hg (N := 3) ?hd (cs := #[.int .i64 a1_0, .slice jq l1_1.length jr]) (t := 33) ?hr ?_; (case hd => rfl); (case hg => rfl); (case hr => (go_simp; done)); intro jO hg w6 hbox hb; have jc := am hbox; have qu := am (gel hg HB.out); have qv := am (gel hg HB.out); replace HB := am (below_step HB.out hb); have j3 := am (nel hg ja.out); have j4 := am (ner hg ja.out); replace ja := am (blk_below ja.out hb); clear hb hbox hg) | ((with_reducible refine gate_dst (N := 4) rfl ?_); refine box_event ?hg (N := 4) ?hd (cs := #[.int .i64 0, .slice none 0 0]) (t := 33) ?hr ?_; (case hd => rfl); (case hg => rfl); (case hr => (go_simp; done)); intro jk hg w7 hbox hb; have jf := am hbox; have qw := am (gel hg HB.out); have j9 := am (gel hg HB.out); replace HB := am (below_step HB.out hb); have ji := am (nel hg ja.out); have jz := am (ner hg ja.out); replace ja := am (blk_below ja.out hb); have jj := am (nel hg jc.out); have jA := am (ner hg jc.out); replace jc := am (blk_below jc.out hb); clear hb hbox hg))
 replace ja := am (blk_drew ja.out)
 replace jc := am (blk_drew jc.out)
 replace jf := am (blk_drew jf.out)
 replace HB := am (below_drew1 HB.out)
 refine start_ (n := 12) (S := fun w' => w'.cell? ⟨jN, 0, none⟩ = some (.int .i64 a0_0) ∧ w'.cell? ⟨jN, 1, none⟩ = some (.slice jo l0_1.length jp) ∧ w'.cell? ⟨jO, 0, none⟩ = some (.int .i64 a1_0) ∧ w'.cell? ⟨jO, 1, none⟩ = some (.slice jq l1_1.length jr)) (ds := []) #[false, false, false, false, false, false, false, false, false, false, false, false] (by kernel_rfl) rfl rfl ⟨(blk_cell ja.out 0).trans rfl, (blk_cell ja.out 1).trans rfl, (blk_cell jc.out 0).trans rfl, (blk_cell jc.out 1).trans rfl⟩ (fun hHeld => ?_); refine with_tabW zelligeref04_Mul.tab1 zelligeref04_Mul.bits1 (fun HT_ HW_ => ?_)
 generalize w7.drew = w8 at ja jc jf HB hHeld ⊢
 refine pure_ (i := 0) (N := some 5) (v := ?_) (a' := ?_) #[true, false, false, false, false, false, false, false, false, false, false, false] rfl rfl (any_of HT_.out (by kernel_rfl)) (fun _ _ _ h => h) (Or.inl ⟨by rfl, ?_⟩) ?_ ?_
 rotate_left
 ·
  intro w'
  go_simp
  with_reducible rfl
 rotate_left
 ·
  simp only [Act.put, sI_, s0_, s1_, i64_w, i32_w]
  rfl
 refine pure_ (i := 2) (N := some 7) (v := ?_) (a' := ?_) #[true, false, true, false, false, false, false, false, false, false, false, false] rfl rfl (any_of HT_.out (by kernel_rfl)) (fun _ _ _ h => h) (Or.inl ⟨by rfl, ?_⟩) ?_ ?_
 rotate_left
 ·
  intro w'
  go_simp
  with_reducible rfl
 rotate_left
 ·
  simp only [Act.put, sI_, s0_, s1_, i64_w, i32_w]
  rfl
 refine pure_ (i := 5) (N := some 10) (v := ?_) (a' := ?_) #[true, false, true, false, false, true, false, false, false, false, false, false] rfl rfl (any_of HT_.out (by kernel_rfl)) (fun _ _ _ h => h) (Or.inl ⟨by rfl, ?_⟩) ?_ ?_
 rotate_left
 ·
  intro w'
  go_simp
  with_reducible rfl
 rotate_left
 ·
  simp only [Act.put, sI_, s0_, s1_, i64_w, i32_w]
  rfl
 refine pure_ (i := 7) (N := some 12) (v := ?_) (a' := ?_) #[true, false, true, false, false, true, false, true, false, false, false, false] rfl rfl (any_of HT_.out (by kernel_rfl)) (fun _ _ _ h => h) (Or.inl ⟨by rfl, ?_⟩) ?_ ?_
 rotate_left
 ·
  intro w'
  go_simp
  with_reducible rfl
 rotate_left
 ·
  simp only [Act.put, sI_, s0_, s1_, i64_w, i32_w]
  rfl
 refine take_ (i := 1) (N := some 6) (v := ?_) (a' := ?_) #[true, true, true, false, false, true, false, true, false, false, false, false] rfl rfl (take_ofW HT_.out HW_.out (by kernel_rfl)) (fun _ _ _ h => h) (Or.inl ⟨by rfl, ?_⟩) hHeld ?_ ?_
 rotate_left
 ·
  rintro w' ⟨s0, s1, s2, s3⟩
  go_simp
  with_reducible rfl
 rotate_left
 ·
  simp only [Act.put, sI_, s0_, s1_, i64_w, i32_w]
  rfl
 refine take_ (i := 3) (N := some 8) (v := ?_) (a' := ?_) #[true, true, true, true, false, true, false, true, false, false, false, false] rfl rfl (take_ofW HT_.out HW_.out (by kernel_rfl)) (fun _ _ _ h => h) (Or.inl ⟨by rfl, ?_⟩) hHeld ?_ ?_
 rotate_left
 ·
  rintro w' ⟨s0, s1, s2, s3⟩
  go_simp
  with_reducible rfl
 rotate_left
 ·
  simp only [Act.put, sI_, s0_, s1_, i64_w, i32_w]
  rfl
 refine pure_ (i := 4) (N := some 9) (v := ?_) (a' := ?_) #[true, true, true, true, true, true, false, true, false, false, false, false] rfl rfl (any_of HT_.out (by kernel_rfl)) (fun _ _ _ h => h) (Or.inl ⟨by rfl, ?_⟩) ?_ ?_
 rotate_left
 ·
  intro w'
  go_simp
  with_reducible rfl
 rotate_left
 ·
  simp only [Act.put, sI_, s0_, s1_, i64_w, i32_w]
  rfl
 refine take_ (i := 6) (N := some 11) (v := ?_) (a' := ?_) #[true, true, true, true, true, true, true, true, false, false, false, false] rfl rfl (take_ofW HT_.out HW_.out (by kernel_rfl)) (fun _ _ _ h => h) (Or.inl ⟨by rfl, ?_⟩) hHeld ?_ ?_
 rotate_left
 ·
  rintro w' ⟨s0, s1, s2, s3⟩
  go_simp
  with_reducible rfl
 rotate_left
 ·
  simp only [Act.put, sI_, s0_, s1_, i64_w, i32_w]
  rfl
 refine take_ (i := 8) (N := some 13) (v := ?_) (a' := ?_) #[true, true, true, true, true, true, true, true, true, false, false, false] rfl rfl (take_ofW HT_.out HW_.out (by kernel_rfl)) (fun _ _ _ h => h) (Or.inl ⟨by rfl, ?_⟩) hHeld ?_ ?_
 rotate_left
 ·
  rintro w' ⟨s0, s1, s2, s3⟩
  go_simp
  with_reducible rfl
 rotate_left
 ·
  simp only [Act.put, sI_, s0_, s1_, i64_w, i32_w]
  rfl
 refine one_ (i := 9) (N := some 14) #[true, true, true, true, true, true, true, true, true, true, false, false] rfl rfl (one_of HT_.out (by kernel_rfl)) (by decide) (fun K hK => ?_)
 refine goes_ Try.func57 (by kernel_rfl) rfl #[.slice jo l0_1.length jp, .slice jq l1_1.length jr] (by rfl) rfl rfl (by (try simp only [List.map_toArray, List.map_cons, List.map_nil]); rfl) ?_
 with_reducible refine (zelligeref03_Mul.calls k _ _ l0_1 _ _ l1_1 jB _ ?side1 ?side2 ?side3 ?side4 A3.out).mono ?_
 (case side1 => repeat (exact (Kd.C_below jI.out HB.out)))
 (case side2 => exact jJ.out)
 (case side3 => repeat (exact (Kd.C_below jK.out HB.out)))
 (case side4 => exact jL.out)
 rintro e w9 ⟨qB, rfl, ho0, hb⟩
 refine ⟨_, rfl, ?_⟩
 have jv := am (Kd.R_lower (Kd.R_newM (M := fun k_ => (w.heap.size ≤ k_)) ho0 (below_size HB.out) (fun k_ h_ => h_)) (below_size HB.out))
 replace ja := am (blk_below ja.out hb)
 replace jc := am (blk_below jc.out hb)
 replace jf := am (blk_below jf.out hb)
 replace HB := am (below_step HB.out hb)
 try clear hb
 try clear ho0
 obtain ⟨jS, jT, eo10⟩ := Kd.R_slice jv.out
 (subst eo10)
 refine hK.out _ _ ⟨(blk_cell ja.out 0).trans rfl, (blk_cell ja.out 1).trans rfl, (blk_cell jc.out 0).trans rfl, (blk_cell jc.out 1).trans rfl⟩ (fun hHeld => ?_)
 clear hK K
 refine norm_ (a' := ?_) ?_ ?_
 rotate_left
 ·
  show Act.put _ (some 14) _ = _
  simp only [Act.put, sI_, s0_, s1_, i64_w, i32_w]
  rfl
 refine one_ (i := 10) (N := some 15) #[true, true, true, true, true, true, true, true, true, true, true, false] rfl rfl (one_of HT_.out (by kernel_rfl)) (by decide) (fun K hK => ?_)
 refine goes_ Try.func51 (by kernel_rfl) rfl #[.int .i64 (wrap64 (a0_0 * a1_0)), .slice jS jB.length jT] (by rfl) rfl rfl (by (try simp only [List.map_toArray, List.map_cons, List.map_nil]); rfl) ?_
 with_reducible refine (zelligeref04_make1.calls (wrap64 (a0_0 * a1_0)) (fun k_ => some k_ = (.slice jS jB.length jT : Value).ownBlock) _ _ jB jM jU _ ?side1 A4.out).mono ?_
 (case side1 => exact Kd.R_V (Kd.R_tight rfl (Kd.R_types (Kd.R_types (Kd.R_types (jv.out) ja.out (by decide)) jc.out (by decide)) jf.out (by decide))))
 rintro e j8 ⟨qC, rfl, ho0, hb⟩
 refine ⟨_, rfl, ?_⟩
 have jW := am (Kd.V_lower (Kd.V_mono (ok' := fun k_ => (w.heap.size ≤ k_) ∧ k_ ≠ jN ∧ k_ ≠ jO ∧ k_ ≠ jk) ho0 (fun k_ hk_ => ⟨Or.elim hk_ (fun hs_ => ((Kd.R_types (Kd.R_types (Kd.R_types (jv.out) ja.out (by decide)) jc.out (by decide)) jf.out (by decide)).1 k_ hs_.symm).1.1.1.1) (fun hn_ => (Nat.le_trans (below_size HB.out) hn_)), Or.elim hk_ (fun hs_ => ((Kd.R_types (Kd.R_types (Kd.R_types (jv.out) ja.out (by decide)) jc.out (by decide)) jf.out (by decide)).1 k_ hs_.symm).1.1.2) (fun hn_ => (Kd.freshB ja.out k_ hn_)), Or.elim hk_ (fun hs_ => ((Kd.R_types (Kd.R_types (Kd.R_types (jv.out) ja.out (by decide)) jc.out (by decide)) jf.out (by decide)).1 k_ hs_.symm).1.2) (fun hn_ => (Kd.freshB jc.out k_ hn_)), Or.elim hk_ (fun hs_ => ((Kd.R_types (Kd.R_types (Kd.R_types (jv.out) ja.out (by decide)) jc.out (by decide)) jf.out (by decide)).1 k_ hs_.symm).2) (fun hn_ => (Kd.freshB jf.out k_ hn_))⟩)) (below_size HB.out))
 replace jv := am (Kd.R_below jv.out hb)
 replace ja := am (blk_below ja.out hb)
 replace jc := am (blk_below jc.out hb)
 replace jf := am (blk_below jf.out hb)
 replace HB := am (below_step HB.out hb)
 try clear hb
 try clear ho0
 obtain ⟨jG, jH, eo13⟩ := Kd.V_slice jW.out
 (subst eo13)
 refine hK.out _ _ ⟨(blk_cell ja.out 0).trans rfl, (blk_cell ja.out 1).trans rfl, (blk_cell jc.out 0).trans rfl, (blk_cell jc.out 1).trans rfl⟩ (fun hHeld => ?_)
 clear hK K
 refine norm_ (a' := ?_) ?_ ?_
 rotate_left
 ·
  show Act.put _ (some 15) _ = _
  simp only [Act.put, sI_, s0_, s1_, i64_w, i32_w]
  rfl
 refine one_ (i := 11) (N := none) #[true, true, true, true, true, true, true, true, true, true, true, true] rfl rfl (one_of HT_.out (by kernel_rfl)) (by decide) (fun K hK => ?_)
 have qc : j8.cell? ⟨jk, 0, none⟩ = some (.int .i64 0) := (blk_cell jf.out 0).trans rfl
 have hfs12 := blk_frozen jf.out 0
 have hns12_0 := ji.out
 have hns12_1 := jj.out
 have hms12_0 := jz.out
 have hms12_1 := jA.out
 have qd : j8.cell? ⟨jk, 1, none⟩ = some (.slice none 0 0) := (blk_cell jf.out 1).trans rfl
 have hfs14 := blk_frozen jf.out 1
 have hns14_0 := ji.out
 have hns14_1 := jj.out
 have hms14_0 := jz.out
 have hms14_1 := jA.out
 refine skip_ (w1 := ?_) (by rfl) rfl ?_ ?_
 rotate_left
 ·
  go_simp
  rfl
 refine hK.out _ _ ⟨((cell_far (p := ⟨jk, _, none⟩) ji.out _).trans (((cell_far (p := ⟨jk, _, none⟩) ji.out _).trans (hHeld.1)))), ((cell_far (p := ⟨jk, _, none⟩) ji.out _).trans (((cell_far (p := ⟨jk, _, none⟩) ji.out _).trans (hHeld.2.1)))), ((cell_far (p := ⟨jk, _, none⟩) jj.out _).trans (((cell_far (p := ⟨jk, _, none⟩) jj.out _).trans (hHeld.2.2.1)))), ((cell_far (p := ⟨jk, _, none⟩) jj.out _).trans (((cell_far (p := ⟨jk, _, none⟩) jj.out _).trans (hHeld.2.2.2))))⟩ (fun hHeld => ?_)
 clear hK K
 refine done_ (done_of HT_.out (by kernel_rfl)) ?_
 try go_wp2
 refine bodyPost_ret (results_cell_row rfl _ _ jk 33 #[.int .i64 jM, .slice jG jU.length jH] (0, 0) _ rfl (by refine blk_put (cs := #[.int .i64 jM, .slice none 0 0]) ?_ 1 _ rfl; refine blk_put (cs := #[.int .i64 0, .slice none 0 0]) ?_ 0 _ rfl; exact jf.out) Try.underlying33 rfl (by kernel_rfl)) rfl ?_
 exact ⟨_, by rfl, by exact Kd.V_mono (Kd.V_far (p := ⟨jk, 1, none⟩) (Kd.V_far (p := ⟨jk, 0, none⟩) (Kd.V_mono jW.out (fun k_ hk => (⟨hk, hk.2.2.2⟩ : _ ∧ k_ ≠ jk))) (fun _ hk => hk.2) (.int .i64 jM)) (fun _ hk => hk.2) (.slice jG jU.length jH)) (fun _ hk => hk.1.1), by repeat ((with_reducible first | exact HB.out | refine below_set ?_ j9.out))⟩

/-! ### zelligeref04_Cmp: function 31 -/
def zelligeref04_Cmp.f (k : Nat) (a0_0 : Int) (l0_1 : List Int) (a1_0 : Int) (l1_1 : List Int) : Option (Int) := (zelligeref04_Sub.f k a0_0 l0_1 a1_0 l1_1).bind fun bt850 => (some bt850.1)
theorem zelligeref04_Cmp.mono : ∀ a0 a1 a2 a3 k, LeO (zelligeref04_Cmp.f k a0 a1 a2 a3) (zelligeref04_Cmp.f (k + 1) a0 a1 a2 a3) := by
 intro a0 a1 a2 a3 k
 unfold zelligeref04_Cmp.f
 repeat' first
   | (with_reducible exact zelligeref04_Sub.mono _ _ _ _ _)
   | (with_reducible exact LeO.refl _)
   | (with_reducible refine LeO.bind ?_ (fun _ => ?_))
set_option maxHeartbeats 8000000 in
set_option maxRecDepth 100000 in
theorem zelligeref04_Cmp.calls (k : Nat) (a0_0 : Int) (jo : Option Addr) (jp : Nat) (l0_1 : List Int) (a1_0 : Int) (jq : Option Addr) (jr : Nat) (l1_1 : List Int) (r : Int) (w : World) (hr0_1 : Kd.C (Kd.int .i64) w jo l0_1.length l0_1) (hc0_1 : l0_1.length ≤ jp) (hr1_1 : Kd.C (Kd.int .i64) w jq l1_1.length l1_1) (hc1_1 : l1_1.length ≤ jr) (h : zelligeref04_Cmp.f k a0_0 l0_1 a1_0 l1_1 = some r) :
  Calls Try.prog 31 #[.agg #[.int .i64 a0_0, .slice jo l0_1.length jp], .agg #[.int .i64 a1_0, .slice jq l1_1.length jr]] w fun e w' => e = .returned (.int .i64 r) ∧ Below w.heap.size w w' := by
 have hu33 := Try.underlying33
 have jI := am hr0_1
 have jJ := am hc0_1
 clear hr0_1 hc0_1
 have jK := am hr1_1
 have jL := am hc1_1
 clear hr1_1 hc1_1
 have HB := am (Below.refl w.heap.size w)
 have H : ((zelligeref04_Sub.f k a0_0 l0_1 a1_0 l1_1).bind fun bt850 => (some bt850.1)) = some r := h
 clear h
 obtain ⟨⟨qa, qe⟩, A3, H⟩ := bindE H
 replace H : (some qa) = some r := H
 obtain rfl := Option.some.inj H
 go_enter Try.func31, Try.ntmps31
 go_wp2_with (first | ((with_reducible refine gate_dst (N := 2) rfl ?_); refine box_event ?hg (N := 2) ?hd (cs := #[.int .i64 a0_0, .slice jo l0_1.length jp]) (t := 33) ?hr ?_; (case hd => rfl); (case hg => rfl); (case hr => (go_simp; done)); intro jP hg w4 hbox hb; have js := am hbox; have jX := am (gel hg HB.out); have qx := am (gel hg HB.out); replace HB := am (below_step HB.out hb); clear hb hbox hg) | ((with_reducible refine gate_dst (N := 3) rfl ?_); refine box_event ?hg (N := 3) ?hd (cs := #[.int .i64 a1_0, .slice jq l1_1.length jr]) (t := 33) ?hr ?_; (case hd => rfl); (case hg => rfl); (case hr => (go_simp; done)); intro jQ hg w5 hbox hb; have jw := am hbox; have jY := am (gel hg HB.out); have qy := am (gel hg HB.out); replace HB := am (below_step HB.out hb); have jD := am (nel hg js.out); have jE := am (ner hg js.out); replace js := am (blk_below js.out hb); clear hb hbox hg; have qD := jD.out; have qE := jE.out; have qf : w5.cell? ⟨jP, 0, none⟩ = some (.int .i64 a0_0) := (blk_cell js.out 0).trans rfl; have qg : w5.cell? ⟨jP, 1, none⟩ = some (.slice jo l0_1.length jp) := (blk_cell js.out 1).trans rfl; have qh := blk_frozen js.out 0; have qi := blk_frozen js.out 1; have qj : w5.cell? ⟨jQ, 0, none⟩ = some (.int .i64 a1_0) := (blk_cell jw.out 0).trans rfl; have qk : w5.cell? ⟨jQ, 1, none⟩ = some (.slice jq l1_1.length jr) := (blk_cell jw.out 1).trans rfl; have ql := blk_frozen jw.out 0; have qm := blk_frozen jw.out 1) | ((with_reducible refine gate_callee (f := 22) rfl ?_); refine goesL_ (some 7) rfl rfl Try.func22 (by kernel_rfl) rfl #[.agg #[.int .i64 a0_0, .slice jo l0_1.length jp], .agg #[.int .i64 a1_0, .slice jq l1_1.length jr]] rfl (by (try simp only [List.map_toArray, List.map_cons, List.map_nil]); rfl) ?_; (with_reducible refine (zelligeref04_Sub.calls k a0_0 (fun k_ => k_ < w.heap.size) _ _ l0_1 a1_0 (fun k_ => k_ < w.heap.size) _ _ l1_1 qa qe _ ?side1 ?side2 A3.out).mono ?_); (case side1 => exact Kd.V_mk jJ.out (Kd.F_below (Kd.C_F (Kd.heap_int .i64) jI.out) HB.out)); (case side2 => exact Kd.V_mk jL.out (Kd.F_below (Kd.C_F (Kd.heap_int .i64) jK.out) HB.out)); rintro e w9 ⟨qF, rfl, ho0, hb⟩; refine ⟨_, rfl, ?_⟩; have qb := am (Kd.V_lower (Kd.V_mono (ok' := fun k_ => k_ ≠ jP ∧ k_ ≠ jQ) ho0 (fun k_ hk_ => ⟨Or.elim hk_ (fun hs_ => Or.elim hs_ (fun hs_ => fun e_ => Nat.not_le.2 hs_ (by rw [e_]; exact jX.out)) (fun hs_ => fun e_ => Nat.not_le.2 hs_ (by rw [e_]; exact jX.out))) (fun hn_ => (Kd.freshB js.out k_ hn_)), Or.elim hk_ (fun hs_ => Or.elim hs_ (fun hs_ => fun e_ => Nat.not_le.2 hs_ (by rw [e_]; exact jY.out)) (fun hs_ => fun e_ => Nat.not_le.2 hs_ (by rw [e_]; exact jY.out))) (fun hn_ => (Kd.freshB jw.out k_ hn_))⟩)) (below_size HB.out)); replace js := am (blk_below js.out hb); replace jw := am (blk_below jw.out hb); replace HB := am (below_step HB.out hb); (try clear hb); (try clear ho0); obtain ⟨Aoz_, coz_, eoz_⟩ := Kd.V_slice qb.out; subst eoz_))
 go_ret
 exact ⟨by rfl, by with_reducible exact HB.out⟩

end Go.Proofs.Ytmfmojldebhboaa.ZWhole
