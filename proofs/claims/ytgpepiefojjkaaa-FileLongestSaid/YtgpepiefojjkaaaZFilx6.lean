-- printed by zprint.py, a program of this session's
import Derived.Test.YtgpepiefojjkaaaZFilx0
import Derived.Test.YtgpepiefojjkaaaZFilx3
import Derived.Test.YtgpepiefojjkaaaZFilx5
namespace Go.Proofs.Ytgpepiefojjkaaa.ZFil
open Go.RowKit Go.Proofs.YtgpepiefojjkaaaW.PrintWords Go.Proofs.YtgpepiefojjkaaaW.PrintLast Go.Proofs.YtgpepiefojjkaaaW.PrintMore
set_option linter.unusedVariables false
set_option linter.unusedSimpArgs false

/-! ### file_Parse: function 11 -/
mutual
def file_Parse.l0 : Nat → ByteArray → Int → ByteArray → Int → Bool → Int → Int → Int → List (S41) → Option (Int × Int × Int × (List (S41)) × (List (S50)) × Int × Int)
  | 0, _, _, _, _, _, _, _, _, _ => none
  | k + 1, x0, x8, x156000, x156001, x156002, x171000, x171001, x171002, x171003 => if x8 = 0 then ((file_reader_three.f k x156000 x156001 x156002 false (⟨#[10]⟩ : ByteArray)).bind fun bt178 => (if x171003.length < 5864062014805 then ((file_reader_word.f k bt178.2.2.2.1 bt178.2.2.2.2.1 bt178.2.2.2.2.2 (([(⟨#[115, 105, 116, 101, 32]⟩ : ByteArray), (⟨#[102, 97, 99, 101, 32]⟩ : ByteArray), (⟨#[101, 110, 100, 10]⟩ : ByteArray)] : List ByteArray))).bind fun bt190 => (file_Parse.l0 k x0 bt190.1 bt190.2.1 bt190.2.2.1 bt190.2.2.2 x171000 x171001 x171002 (x171003 ++ [(⟨bt178.1, bt178.2.1, bt178.2.2.1⟩ : S41)]))) else (none))) else (file_Parse.l1 k x0 x8 x156000 x156001 x156002 x171000 x171001 x171002 x171003 ([] : List (S50)))
def file_Parse.l1 : Nat → ByteArray → Int → ByteArray → Int → Bool → Int → Int → Int → List (S41) → List (S50) → Option (Int × Int × Int × (List (S41)) × (List (S50)) × Int × Int)
  | 0, _, _, _, _, _, _, _, _, _, _ => none
  | k + 1, x0, x8, x156000, x156001, x156002, x171000, x171001, x171002, x171003, x171004 => if x8 = 1 then ((file_reader_corners.f k x156000 x156001 x156002).bind fun bt194 => (if x171004.length < 1954687338268 then ((file_reader_word.f k bt194.2.2.2.2.2.2.2.2.2.1 bt194.2.2.2.2.2.2.2.2.2.2.1 bt194.2.2.2.2.2.2.2.2.2.2.2 (([(⟨#[101, 110, 100, 10]⟩ : ByteArray), (⟨#[102, 97, 99, 101, 32]⟩ : ByteArray)] : List ByteArray))).bind fun bt212 => (file_Parse.l1 k x0 bt212.1 bt212.2.1 bt212.2.2.1 bt212.2.2.2 x171000 x171001 x171002 x171003 (x171004 ++ [(⟨(⟨bt194.1, bt194.2.1, bt194.2.2.1⟩ : S41), (⟨bt194.2.2.2.1, bt194.2.2.2.2.1, bt194.2.2.2.2.2.1⟩ : S41), (⟨bt194.2.2.2.2.2.2.1, bt194.2.2.2.2.2.2.2.1, bt194.2.2.2.2.2.2.2.2.1⟩ : S41)⟩ : S50)]))) else (none))) else (if x156002 = true then (if x156001 = (x0.size : Int) then (some (x171000, x171001, x171002, x171003, x171004, 0, 0)) else (some (0, 0, 0, ([] : List (S41)), ([] : List (S50)), x156001, 17))) else (some (0, 0, 0, ([] : List (S41)), ([] : List (S50)), x156001, 17)))
end
def file_Parse.f (k : Nat) (a0 : ByteArray) : Option (Int × Int × Int × (List (S41)) × (List (S50)) × Int × Int) := (file_reader_word.f k a0 0 true (([(⟨#[109, 101, 115, 104, 32]⟩ : ByteArray)] : List ByteArray))).bind fun bt159 => ((file_reader_three.f k bt159.2.1 bt159.2.2.1 bt159.2.2.2 false (⟨#[10]⟩ : ByteArray)).bind fun bt163 => ((file_reader_word.f k bt163.2.2.2.1 bt163.2.2.2.2.1 bt163.2.2.2.2.2 (([(⟨#[115, 105, 116, 101, 32]⟩ : ByteArray), (⟨#[102, 97, 99, 101, 32]⟩ : ByteArray), (⟨#[101, 110, 100, 10]⟩ : ByteArray)] : List ByteArray))).bind fun bt174 => (file_Parse.l0 k a0 bt174.1 bt174.2.1 bt174.2.2.1 bt174.2.2.2 bt163.1 bt163.2.1 bt163.2.2.1 ([] : List (S41)))))
theorem file_Parse.mono_l : ∀ k, (∀ y0 y1 y2 y3 y4 y5 y6 y7 y8, LeO (file_Parse.l0 k y0 y1 y2 y3 y4 y5 y6 y7 y8) (file_Parse.l0 (k + 1) y0 y1 y2 y3 y4 y5 y6 y7 y8)) ∧ (∀ y0 y1 y2 y3 y4 y5 y6 y7 y8 y9, LeO (file_Parse.l1 k y0 y1 y2 y3 y4 y5 y6 y7 y8 y9) (file_Parse.l1 (k + 1) y0 y1 y2 y3 y4 y5 y6 y7 y8 y9))
  | 0 => ⟨fun _ _ _ _ _ _ _ _ _ r h => by simp [file_Parse.l0] at h, fun _ _ _ _ _ _ _ _ _ _ r h => by simp [file_Parse.l1] at h⟩
  | k + 1 => by
    obtain ⟨ih0, ih1⟩ := file_Parse.mono_l k
    refine ⟨?_, ?_⟩
    · intro y0 y1 y2 y3 y4 y5 y6 y7 y8
      unfold file_Parse.l0
      repeat' first
      | (with_reducible exact ih0 _ _ _ _ _ _ _ _ _)
      | (with_reducible exact ih1 _ _ _ _ _ _ _ _ _ _)
      | (with_reducible exact file_reader_corners.mono _ _ _ _)
      | (with_reducible exact file_reader_three.mono _ _ _ _ _ _)
      | (with_reducible exact file_reader_word.mono _ _ _ _ _)
      | (with_reducible exact LeO.refl _)
      | (with_reducible exact LeO.none _)
      | (with_reducible refine LeO.ite ?_ ?_)
      | (with_reducible refine LeO.bind ?_ (fun _ => ?_))
      | exact ih0 _ _ _ _ _ _ _ _ _
      | exact ih1 _ _ _ _ _ _ _ _ _ _
      | exact file_reader_corners.mono _ _ _ _
      | exact file_reader_three.mono _ _ _ _ _ _
      | exact file_reader_word.mono _ _ _ _ _
      | exact LeO.none _
      | refine LeO.ite ?_ ?_
      | refine LeO.bind ?_ (fun _ => ?_)
    · intro y0 y1 y2 y3 y4 y5 y6 y7 y8 y9
      unfold file_Parse.l1
      repeat' first
      | (with_reducible exact ih0 _ _ _ _ _ _ _ _ _)
      | (with_reducible exact ih1 _ _ _ _ _ _ _ _ _ _)
      | (with_reducible exact file_reader_corners.mono _ _ _ _)
      | (with_reducible exact file_reader_three.mono _ _ _ _ _ _)
      | (with_reducible exact file_reader_word.mono _ _ _ _ _)
      | (with_reducible exact LeO.refl _)
      | (with_reducible exact LeO.none _)
      | (with_reducible refine LeO.ite ?_ ?_)
      | (with_reducible refine LeO.bind ?_ (fun _ => ?_))
      | exact ih0 _ _ _ _ _ _ _ _ _
      | exact ih1 _ _ _ _ _ _ _ _ _ _
      | exact file_reader_corners.mono _ _ _ _
      | exact file_reader_three.mono _ _ _ _ _ _
      | exact file_reader_word.mono _ _ _ _ _
      | exact LeO.none _
      | refine LeO.ite ?_ ?_
      | refine LeO.bind ?_ (fun _ => ?_)
theorem file_Parse.mono : ∀ a0 k, LeO (file_Parse.f k a0) (file_Parse.f (k + 1) a0) := by
  intro a0 k
  obtain ⟨ih0, ih1⟩ := file_Parse.mono_l k
  unfold file_Parse.f
  repeat' first
      | (with_reducible exact ih0 _ _ _ _ _ _ _ _ _)
      | (with_reducible exact ih1 _ _ _ _ _ _ _ _ _ _)
      | (with_reducible exact file_reader_corners.mono _ _ _ _)
      | (with_reducible exact file_reader_three.mono _ _ _ _ _ _)
      | (with_reducible exact file_reader_word.mono _ _ _ _ _)
      | (with_reducible exact LeO.refl _)
      | (with_reducible exact LeO.none _)
      | (with_reducible refine LeO.ite ?_ ?_)
      | (with_reducible refine LeO.bind ?_ (fun _ => ?_))
      | exact ih0 _ _ _ _ _ _ _ _ _
      | exact ih1 _ _ _ _ _ _ _ _ _ _
      | exact file_reader_corners.mono _ _ _ _
      | exact file_reader_three.mono _ _ _ _ _ _
      | exact file_reader_word.mono _ _ _ _ _
      | exact LeO.none _
      | refine LeO.ite ?_ ?_
      | refine LeO.bind ?_ (fun _ => ?_)
def file_Parse.T8 : Bool × List (List Nat × List Nat) := (true, [([], []), ([0], [0]), ([], []), ([2], [2]), ([3], [3]), ([1, 4, 3], [1, 4]), ([0, 1, 2, 3, 4, 5], []), ([6, 5, 5, 0, 1, 2, 3, 4, 5], [5, 6])])
def file_Parse.B8 : List Nat := [0, 1, 0, 4, 12, 31, 63, 127]
theorem file_Parse.tab8 : rtab .any (opsOf Try.f11 8) = file_Parse.T8 := by kernel_rfl
theorem file_Parse.bits8 : waitsOk file_Parse.T8.2 file_Parse.B8 = true := by kernel_rfl
def file_Parse.T11 : Bool × List (List Nat × List Nat) := (true, [([], []), ([0], [0]), ([], []), ([2], [2]), ([3], [3]), ([1, 4, 3], [1, 4]), ([0, 1, 2, 3, 4, 5], []), ([6, 5, 5, 0, 1, 2, 3, 4, 5], [5, 6])])
def file_Parse.B11 : List Nat := [0, 1, 0, 4, 12, 31, 63, 127]
theorem file_Parse.tab11 : rtab .any (opsOf Try.f11 11) = file_Parse.T11 := by kernel_rfl
theorem file_Parse.bits11 : waitsOk file_Parse.T11.2 file_Parse.B11 = true := by kernel_rfl
def file_Parse.T14 : Bool × List (List Nat × List Nat) := (true, [([], []), ([], []), ([1], [1]), ([2], [2]), ([3], [3]), ([0, 0], [0]), ([4, 5, 0, 1, 2, 3, 4, 5], [4]), ([6, 0, 1, 2, 3, 4, 5, 6], [])])
def file_Parse.B14 : List Nat := [0, 0, 2, 6, 14, 1, 63, 127]
theorem file_Parse.tab14 : rtab .any (opsOf Try.f11 14) = file_Parse.T14 := by kernel_rfl
theorem file_Parse.bits14 : waitsOk file_Parse.T14.2 file_Parse.B14 = true := by kernel_rfl
set_option maxHeartbeats 8000000 in
set_option maxRecDepth 100000 in
theorem file_Parse.calls (k : Nat) (a0 : ByteArray) (r1 : Int) (r2 : Int) (r3 : Int) (r4 : List (S41)) (r5 : List (S50)) (r6 : Int) (r7 : Int) (w : World) (h : file_Parse.f k a0 = some (r1, r2, r3, r4, r5, r6, r7)) :
    Calls Try.prog 11 #[.string a0] w fun e w' => ∃ v3_ v4_ : Value, e = .returned (.tuple #[.agg #[.int .i64 r1, .int .i64 r2, .int .i64 r3, v3_, v4_], .int .i64 r6, .int .i64 r7]) ∧ Kd.R k41 41 w' w.heap.size (fun _ => True) v3_ r4 ∧ Kd.R k50 50 w' w.heap.size (fun _ => True) v4_ r5 ∧ Below w.heap.size w w' := by
  have hu31 := Try.underlying31
  have hu48 := Try.underlying48
  have hu41 := Try.underlying41
  have HB := Aside0.mk (Below.refl w.heap.size w)
  have H : ((file_reader_word.f k a0 0 true (([(⟨#[109, 101, 115, 104, 32]⟩ : ByteArray)] : List ByteArray))).bind fun bt159 => ((file_reader_three.f k bt159.2.1 bt159.2.2.1 bt159.2.2.2 false (⟨#[10]⟩ : ByteArray)).bind fun bt163 => ((file_reader_word.f k bt163.2.2.2.1 bt163.2.2.2.2.1 bt163.2.2.2.2.2 (([(⟨#[115, 105, 116, 101, 32]⟩ : ByteArray), (⟨#[102, 97, 99, 101, 32]⟩ : ByteArray), (⟨#[101, 110, 100, 10]⟩ : ByteArray)] : List ByteArray))).bind fun bt174 => (file_Parse.l0 k a0 bt174.1 bt174.2.1 bt174.2.2.1 bt174.2.2.2 bt163.1 bt163.2.1 bt163.2.2.1 ([] : List (S41)))))) = some (r1, r2, r3, r4, r5, r6, r7) := h
  clear h
  obtain ⟨y156, hy156⟩ : ∃ y_ : List ByteArray, y_ = (([(⟨#[109, 101, 115, 104, 32]⟩ : ByteArray)] : List ByteArray)) := ⟨_, rfl⟩
  replace H : ((file_reader_word.f k a0 0 true y156).bind fun bt159 => ((file_reader_three.f k bt159.2.1 bt159.2.2.1 bt159.2.2.2 false (⟨#[10]⟩ : ByteArray)).bind fun bt163 => ((file_reader_word.f k bt163.2.2.2.1 bt163.2.2.2.2.1 bt163.2.2.2.2.2 (([(⟨#[115, 105, 116, 101, 32]⟩ : ByteArray), (⟨#[102, 97, 99, 101, 32]⟩ : ByteArray), (⟨#[101, 110, 100, 10]⟩ : ByteArray)] : List ByteArray))).bind fun bt174 => (file_Parse.l0 k a0 bt174.1 bt174.2.1 bt174.2.2.1 bt174.2.2.2 bt163.1 bt163.2.1 bt163.2.2.1 ([] : List (S41)))))) = some (r1, r2, r3, r4, r5, r6, r7) := by first | (rw [hy156]; with_reducible exact H) | (have H2_ := (Option.bind_some _ _).symm.trans H; rw [hy156]; with_reducible exact H2_) | (have H2_ := (Option.bind_some _ _).symm.trans H; with_reducible exact H2_) | with_reducible exact H | (rw [hy156]; exact H) | exact H
  have Ny156 := Aside0.mk hy156
  clear hy156
  obtain ⟨⟨t159, t160, t161, t162⟩, A2, H⟩ := bindE H
  replace H : ((file_reader_three.f k t160 t161 t162 false (⟨#[10]⟩ : ByteArray)).bind fun bt163 => ((file_reader_word.f k bt163.2.2.2.1 bt163.2.2.2.2.1 bt163.2.2.2.2.2 (([(⟨#[115, 105, 116, 101, 32]⟩ : ByteArray), (⟨#[102, 97, 99, 101, 32]⟩ : ByteArray), (⟨#[101, 110, 100, 10]⟩ : ByteArray)] : List ByteArray))).bind fun bt174 => (file_Parse.l0 k a0 bt174.1 bt174.2.1 bt174.2.2.1 bt174.2.2.2 bt163.1 bt163.2.1 bt163.2.2.1 ([] : List (S41))))) = some (r1, r2, r3, r4, r5, r6, r7) := H
  obtain ⟨⟨t163, t164, t165, t166, t167, t168⟩, A3, H⟩ := bindE H
  replace H : ((file_reader_word.f k t166 t167 t168 (([(⟨#[115, 105, 116, 101, 32]⟩ : ByteArray), (⟨#[102, 97, 99, 101, 32]⟩ : ByteArray), (⟨#[101, 110, 100, 10]⟩ : ByteArray)] : List ByteArray))).bind fun bt174 => (file_Parse.l0 k a0 bt174.1 bt174.2.1 bt174.2.2.1 bt174.2.2.2 t163 t164 t165 ([] : List (S41)))) = some (r1, r2, r3, r4, r5, r6, r7) := H
  obtain ⟨y171, hy171⟩ : ∃ y_ : List ByteArray, y_ = (([(⟨#[115, 105, 116, 101, 32]⟩ : ByteArray), (⟨#[102, 97, 99, 101, 32]⟩ : ByteArray), (⟨#[101, 110, 100, 10]⟩ : ByteArray)] : List ByteArray)) := ⟨_, rfl⟩
  replace H : ((file_reader_word.f k t166 t167 t168 y171).bind fun bt174 => (file_Parse.l0 k a0 bt174.1 bt174.2.1 bt174.2.2.1 bt174.2.2.2 t163 t164 t165 ([] : List (S41)))) = some (r1, r2, r3, r4, r5, r6, r7) := by first | (rw [hy171]; with_reducible exact H) | (have H2_ := (Option.bind_some _ _).symm.trans H; rw [hy171]; with_reducible exact H2_) | (have H2_ := (Option.bind_some _ _).symm.trans H; with_reducible exact H2_) | with_reducible exact H | (rw [hy171]; exact H) | exact H
  have Ny171 := Aside0.mk hy171
  clear hy171
  obtain ⟨⟨t174, t175, t176, t177⟩, A4, H⟩ := bindE H
  replace H : (file_Parse.l0 k a0 t174 t175 t176 t177 t163 t164 t165 ([] : List (S41))) = some (r1, r2, r3, r4, r5, r6, r7) := H
  have H' := Aside0.mk H
  clear H
  go_enter Try.func11, Try.ntmps11
  go_wp2_with (first | ((with_reducible refine gate_dst (N := 2) rfl ?_); (try (refine gate_guard (by rfl) ?_; dsimp only)); refine box_event ?hg (N := 2) ?hd (cs := #[.int .i64 0, .int .i64 0, .int .i64 0, .slice none 0 0, .slice none 0 0]) (t := 31) ?hr ?_; (case hd => rfl); (case hg => rfl); (case hr => first | (go_simp; done) | (go_simp; rfl) | (go_simp; simp only [zw_u32, zw_u8, zw_u32', zw_u8', IntKind.wrap_u32, IntKind.wrap_u8]; done) | (go_simp; simp only [zw_u32, zw_u8, zw_u32', zw_u8', IntKind.wrap_u32, IntKind.wrap_u8]; rfl)); intro gb154 hg w5 hbox hb; have n0_ := Aside0.mk (below_step (by repeat (first | (with_reducible first | exact HB.out | apply below_alloc | apply pw_below_drewN | apply below_drew1) | exact HB.out)) hb); have n1_ := Aside0.mk (hbox); have n2_ := Aside0.mk ((by rw [hg]; exact (below_size (by repeat (first | (with_reducible first | exact HB.out | apply below_alloc | apply pw_below_drewN | apply below_drew1) | exact HB.out))) : w.heap.size ≤ gb154)); have n3_ := Aside0.mk ((by rw [hg]; exact (below_size (by repeat (first | (with_reducible first | exact HB.out | apply below_alloc | apply pw_below_drewN | apply below_drew1) | exact HB.out))) : w.heap.size ≤ gb154)); clear HB; have HB := n0_; have BK154 := n1_; have GW154 := n2_; have GE154 := n3_; clear n0_ n1_ n2_ n3_; clear hb hbox hg) | ((with_reducible refine gate_dst (N := 11) rfl ?_); (try (refine gate_guard (by rfl) ?_; dsimp only)); refine box_event ?hg (N := 11) ?hd (cs := #[.string a0, .int .i64 0, .bool true]) (t := 48) ?hr ?_; (case hd => rfl); (case hg => rfl); (case hr => first | (go_simp; done) | (go_simp; rfl)); intro gb155 hg w6 hbox hb; have n0_ := Aside0.mk (blk_below (g := gb154) (o := .cells #[.int .i64 0, .int .i64 0, .int .i64 0, .slice none 0 0, .slice none 0 0] 31 (0, 0)) (by (with_reducible repeat (first | refine blk_drewN ?_ _ | refine blk_drew ?_ | refine blk_alloc ?_ _)); exact BK154.out) hb); have n1_ := Aside0.mk (below_step (by repeat (first | (with_reducible first | exact HB.out | apply below_alloc | apply pw_below_drewN | apply below_drew1 | refine below_set ?_ GE154.out) | exact HB.out)) hb); have n2_ := Aside0.mk ((show IsS48 w w6 gb155 a0 0 true from ⟨hbox, (by rw [hg]; exact (below_size (by repeat (first | (with_reducible first | exact HB.out | apply below_alloc | apply pw_below_drewN | apply below_drew1 | refine below_set ?_ GE154.out) | exact HB.out))))⟩)); have n3_ := Aside0.mk ((by rw [hg]; exact Nat.ne_of_lt (blk_lt (g := gb154) (o := .cells #[.int .i64 0, .int .i64 0, .int .i64 0, .slice none 0 0, .slice none 0 0] 31 (0, 0)) (by (with_reducible repeat (first | refine blk_drewN ?_ _ | refine blk_drew ?_ | refine blk_alloc ?_ _)); exact BK154.out)) : gb154 ≠ gb155)); have n4_ := Aside0.mk ((by rw [hg]; exact Nat.ne_of_gt (blk_lt (g := gb154) (o := .cells #[.int .i64 0, .int .i64 0, .int .i64 0, .slice none 0 0, .slice none 0 0] 31 (0, 0)) (by (with_reducible repeat (first | refine blk_drewN ?_ _ | refine blk_drew ?_ | refine blk_alloc ?_ _)); exact BK154.out)) : gb155 ≠ gb154)); clear BK154; clear HB; have BK154 := n0_; have HB := n1_; have HI155 := n2_; have NB154_155 := n3_; have NB155_154 := n4_; clear n0_ n1_ n2_ n3_ n4_; clear hb hbox hg) | ((with_reducible refine gate_dst (N := 13) rfl ?_); (try (refine gate_guard (by rfl) ?_; dsimp only)); refine Kd.R_lit Kd.string _ 9 ?hg (N := 13) ?hd (xs := ([(⟨#[109, 101, 115, 104, 32]⟩ : ByteArray)] : List ByteArray)) (inner := [.string (⟨#[109, 101, 115, 104, 32]⟩ : ByteArray)]) (ok := fun _ => True) (okp := fun _ => True) ?hr ?hp (fun _ hk => hk) trivial (Below.refl _ _) (Nat.le_refl _) (by simp) ?_; (case hd => rfl); (case hg => rfl); (case hr => first | (go_simp; done) | (go_simp; rfl) | (go_simp; simp only [zw_u32, zw_u8, zw_u32', zw_u8', IntKind.wrap_u32, IntKind.wrap_u8]; done) | (go_simp; simp only [zw_u32, zw_u8, zw_u32', zw_u8', IntKind.wrap_u32, IntKind.wrap_u8]; rfl)); (case hp => exact (Reps.one (show Kd.M Kd.string _ _ _ (⟨#[109, 101, 115, 104, 32]⟩ : ByteArray) [.string (⟨#[109, 101, 115, 104, 32]⟩ : ByteArray)] from rfl) (Reps.none _ _))); intro v157 w7 ho8 hb hg_ hnew_; clear hg_ hnew_; (first | rw [← Ny156.out] at ho8 | (simp only [Int.reduceToNat] at ho8; rw [← Ny156.out] at ho8)); have n0_ := Aside0.mk (Kd.R_lower ho8 (below_size (by repeat (first | (with_reducible first | exact HB.out | apply below_alloc | apply pw_below_drewN | apply below_drew1 | refine below_set ?_ (IsS48.ge HI155.out) | refine below_set ?_ GE154.out) | exact HB.out)))); have n1_ := Aside0.mk (blk_below (g := gb154) (o := .cells #[.int .i64 0, .int .i64 0, .int .i64 0, .slice none 0 0, .slice none 0 0] 31 (0, 0)) (by (with_reducible repeat (first | refine blk_drewN ?_ _ | refine blk_drew ?_ | refine blk_alloc ?_ _)); exact BK154.out) hb); have n2_ := Aside0.mk (IsS48.below (by repeat (first | (with_reducible first | exact HI155.out | apply IsS48.alloc | apply IsS48.drewN | apply IsS48.drew | apply IsS48.set_0 | apply IsS48.set_1 | apply IsS48.set_2 | refine IsS48.far ?_ NB155_154.out _) | exact HI155.out)) hb); have n3_ := Aside0.mk (below_step (by repeat (first | (with_reducible first | exact HB.out | apply below_alloc | apply pw_below_drewN | apply below_drew1 | refine below_set ?_ (IsS48.ge HI155.out) | refine below_set ?_ GE154.out) | exact HB.out)) hb); clear BK154; clear HI155; clear HB; have HO158 := n0_; have BK154 := n1_; have HI155 := n2_; have HB := n3_; clear n0_ n1_ n2_ n3_; clear hb ho8; obtain ⟨Ao9, co9, eo9⟩ := Kd.R_slice HO158.out; subst eo9) | ((with_reducible refine gate_callee (f := 20) rfl ?_); refine goesL_ (some 14) rfl rfl Try.func20 (by kernel_rfl) rfl #[.pointer (some ⟨gb155, 0, none⟩), .slice Ao9 y156.length co9] rfl (by (try simp only [List.map_toArray, List.map_cons, List.map_nil]); first | done | rfl | (simp only [List.length_drop, List.length_take]; rfl)) ?_; (with_reducible refine (file_reader_word.calls k gb155 a0 0 true _ _ y156 t159 t160 t161 t162 w _ ?side1 ?side2 ?side3 ?side4 ?side5 A2.out).mono ?_); (case side1 => repeat (first | (with_reducible first | exact HI155.out | apply IsS48.alloc | apply IsS48.drewN | apply IsS48.drew | apply IsS48.set_0 | apply IsS48.set_1 | apply IsS48.set_2 | refine IsS48.far ?_ NB155_154.out _) | exact HI155.out)); (case side2 => repeat (first | (with_reducible first | exact HB.out | apply below_alloc | apply pw_below_drewN | apply below_drew1 | refine below_set ?_ (IsS48.ge HI155.out) | refine below_set ?_ GE154.out) | exact HB.out)); (case side3 => repeat (first | exact (Kd.R_reads' HO158.out).2.2 | (with_reducible refine Kd.C_alloc ?_ _) | (with_reducible refine Kd.C_drewN ?_ _) | (with_reducible refine Kd.C_drew ?_))); (case side4 => exact (Kd.R_reads' HO158.out).2.1); (case side5 => exact far_slice (IsS48.own_ne HI155.out HO158.out (by decide))); rintro e w10 ⟨rfl, hi, hb, hk⟩; refine ⟨_, rfl, ?_⟩; have n0_ := Aside0.mk (KeepBut.blk hk (g' := gb154) (o := .cells #[.int .i64 0, .int .i64 0, .int .i64 0, .slice none 0 0, .slice none 0 0] 31 (0, 0)) (by (with_reducible repeat (first | refine blk_drewN ?_ _ | refine blk_drew ?_ | refine blk_alloc ?_ _)); exact BK154.out) NB154_155.out (by simp)); have n1_ := Aside0.mk (Kd.R_mono (Kd.R_keep (IsS48.apart (show IsS48 w _ gb155 a0 0 true from by repeat (first | (with_reducible first | exact HI155.out | apply IsS48.alloc | apply IsS48.drewN | apply IsS48.drew | apply IsS48.set_0 | apply IsS48.set_1 | apply IsS48.set_2 | refine IsS48.far ?_ NB155_154.out _) | exact HI155.out)) (by (with_reducible repeat (first | apply Kd.R_alloc | apply Kd.R_drewN | apply Kd.R_drew)); exact HO158.out) (by decide)) hk (fun _ h => h.2)) (fun _ h => h.1)); have n2_ := Aside0.mk (hb); have n3_ := Aside0.mk (hi); clear BK154; clear HO158; clear HB; clear HI155; have BK154 := n0_; have HO158 := n1_; have HB := n2_; have HI155 := n3_; clear n0_ n1_ n2_ n3_; (try clear hb); (try clear hb2); (try clear hk); (try clear hi)) | ((with_reducible refine gate_callee (f := 21) rfl ?_); refine goesL_ (some 16) rfl rfl Try.func21 (by kernel_rfl) rfl #[.pointer (some ⟨gb155, 0, none⟩), .bool false, .string (⟨#[10]⟩ : ByteArray)] rfl (by (try simp only [List.map_toArray, List.map_cons, List.map_nil]); first | done | rfl | (simp only [List.length_drop, List.length_take]; rfl)) ?_; (with_reducible refine (file_reader_three.calls k gb155 t160 t161 t162 false (⟨#[10]⟩ : ByteArray) t163 t164 t165 t166 t167 t168 w _ ?side1 ?side2 A3.out).mono ?_); (case side1 => repeat (first | (with_reducible first | exact HI155.out | apply IsS48.alloc | apply IsS48.drewN | apply IsS48.drew | apply IsS48.set_0 | apply IsS48.set_1 | apply IsS48.set_2 | refine IsS48.far ?_ NB155_154.out _) | exact HI155.out)); (case side2 => repeat (first | (with_reducible first | exact HB.out | apply below_alloc | apply pw_below_drewN | apply below_drew1 | refine below_set ?_ (IsS48.ge HI155.out) | refine below_set ?_ GE154.out) | exact HB.out)); rintro e w11 ⟨rfl, hi, hb, hk⟩; refine ⟨_, rfl, ?_⟩; have n0_ := Aside0.mk (KeepBut.blk hk (g' := gb154) (o := .cells #[.int .i64 0, .int .i64 0, .int .i64 0, .slice none 0 0, .slice none 0 0] 31 (0, 0)) (by (with_reducible repeat (first | refine blk_drewN ?_ _ | refine blk_drew ?_ | refine blk_alloc ?_ _)); exact BK154.out) NB154_155.out (by simp)); have n1_ := Aside0.mk (Kd.R_mono (Kd.R_keep (IsS48.apart (show IsS48 w _ gb155 t160 t161 t162 from by repeat (first | (with_reducible first | exact HI155.out | apply IsS48.alloc | apply IsS48.drewN | apply IsS48.drew | apply IsS48.set_0 | apply IsS48.set_1 | apply IsS48.set_2 | refine IsS48.far ?_ NB155_154.out _) | exact HI155.out)) (by (with_reducible repeat (first | apply Kd.R_alloc | apply Kd.R_drewN | apply Kd.R_drew)); exact HO158.out) (by decide)) hk (fun _ h => h.2)) (fun _ h => h.1)); have n2_ := Aside0.mk (hb); have n3_ := Aside0.mk (hi); clear BK154; clear HO158; clear HB; clear HI155; have BK154 := n0_; have HO158 := n1_; have HB := n2_; have HI155 := n3_; clear n0_ n1_ n2_ n3_; (try clear hb); (try clear hb2); (try clear hk); (try clear hi)) | ((with_reducible refine gate_dst (N := 6) rfl ?_); (try (refine gate_guard (by rfl) ?_; dsimp only)); refine box_event ?hg (N := 6) ?hd (cs := #[.int .i64 0, .int .i64 0, .int .i64 0]) (t := 41) ?hr ?_; (case hd => rfl); (case hg => rfl); (case hr => first | (go_simp; done) | (go_simp; rfl) | (go_simp; simp only [zw_u32, zw_u8, zw_u32', zw_u8', IntKind.wrap_u32, IntKind.wrap_u8]; done) | (go_simp; simp only [zw_u32, zw_u8, zw_u32', zw_u8', IntKind.wrap_u32, IntKind.wrap_u8]; rfl)); intro gb169 hg w12 hbox hb; have n0_ := Aside0.mk (Kd.R_below (by (with_reducible repeat (first | apply Kd.R_alloc | apply Kd.R_drewN | apply Kd.R_drew)); exact HO158.out) hb); have n1_ := Aside0.mk (blk_below (g := gb154) (o := .cells #[.int .i64 0, .int .i64 0, .int .i64 0, .slice none 0 0, .slice none 0 0] 31 (0, 0)) (by (with_reducible repeat (first | refine blk_drewN ?_ _ | refine blk_drew ?_ | refine blk_alloc ?_ _)); exact BK154.out) hb); have n2_ := Aside0.mk (IsS48.below (by repeat (first | (with_reducible first | exact HI155.out | apply IsS48.alloc | apply IsS48.drewN | apply IsS48.drew | apply IsS48.set_0 | apply IsS48.set_1 | apply IsS48.set_2 | refine IsS48.far ?_ NB155_154.out _) | exact HI155.out)) hb); have n3_ := Aside0.mk (below_step (by repeat (first | (with_reducible first | exact HB.out | apply below_alloc | apply pw_below_drewN | apply below_drew1 | refine below_set ?_ (IsS48.ge HI155.out) | refine below_set ?_ GE154.out) | exact HB.out)) hb); have n4_ := Aside0.mk (hbox); have n5_ := Aside0.mk ((by rw [hg]; exact (below_size (by repeat (first | (with_reducible first | exact HB.out | apply below_alloc | apply pw_below_drewN | apply below_drew1 | refine below_set ?_ (IsS48.ge HI155.out) | refine below_set ?_ GE154.out) | exact HB.out))) : w.heap.size ≤ gb169)); have n6_ := Aside0.mk ((by rw [hg]; exact (below_size (by repeat (first | (with_reducible first | exact HB.out | apply below_alloc | apply pw_below_drewN | apply below_drew1 | refine below_set ?_ (IsS48.ge HI155.out) | refine below_set ?_ GE154.out) | exact HB.out))) : w.heap.size ≤ gb169)); have n7_ := Aside0.mk ((by rw [hg]; exact Nat.ne_of_lt (blk_lt (g := gb154) (o := .cells #[.int .i64 0, .int .i64 0, .int .i64 0, .slice none 0 0, .slice none 0 0] 31 (0, 0)) (by (with_reducible repeat (first | refine blk_drewN ?_ _ | refine blk_drew ?_ | refine blk_alloc ?_ _)); exact BK154.out)) : gb154 ≠ gb169)); have n8_ := Aside0.mk ((by rw [hg]; exact Nat.ne_of_gt (blk_lt (g := gb154) (o := .cells #[.int .i64 0, .int .i64 0, .int .i64 0, .slice none 0 0, .slice none 0 0] 31 (0, 0)) (by (with_reducible repeat (first | refine blk_drewN ?_ _ | refine blk_drew ?_ | refine blk_alloc ?_ _)); exact BK154.out)) : gb169 ≠ gb154)); have n9_ := Aside0.mk ((by rw [hg]; exact Nat.ne_of_lt (IsS48.lt (show IsS48 w _ gb155 t166 t167 t168 from by repeat (first | (with_reducible first | exact HI155.out | apply IsS48.alloc | apply IsS48.drewN | apply IsS48.drew | apply IsS48.set_0 | apply IsS48.set_1 | apply IsS48.set_2 | refine IsS48.far ?_ NB155_154.out _) | exact HI155.out))) : gb155 ≠ gb169)); have n10_ := Aside0.mk ((by rw [hg]; exact Nat.ne_of_gt (IsS48.lt (show IsS48 w _ gb155 t166 t167 t168 from by repeat (first | (with_reducible first | exact HI155.out | apply IsS48.alloc | apply IsS48.drewN | apply IsS48.drew | apply IsS48.set_0 | apply IsS48.set_1 | apply IsS48.set_2 | refine IsS48.far ?_ NB155_154.out _) | exact HI155.out))) : gb169 ≠ gb155)); clear HO158; clear BK154; clear HI155; clear HB; have HO158 := n0_; have BK154 := n1_; have HI155 := n2_; have HB := n3_; have BK169 := n4_; have GW169 := n5_; have GE169 := n6_; have NB154_169 := n7_; have NB169_154 := n8_; have NB155_169 := n9_; have NB169_155 := n10_; clear n0_ n1_ n2_ n3_ n4_ n5_ n6_ n7_ n8_ n9_ n10_; clear hb hbox hg; have hnb13 := NB169_154.out; have hnc13 := NB154_169.out; have hnb14 := NB169_155.out; have hnc14 := NB155_169.out; have hcz15_0 : w12.cell? ⟨gb169, 0, none⟩ = some (.int .i64 0) := (blk_cell BK169.out 0).trans rfl; have hcz15_1 : w12.cell? ⟨gb169, 1, none⟩ = some (.int .i64 0) := (blk_cell BK169.out 1).trans rfl; have hcz15_2 : w12.cell? ⟨gb169, 2, none⟩ = some (.int .i64 0) := (blk_cell BK169.out 2).trans rfl; have hfz15_0 := blk_frozen BK169.out 0; have hfz15_1 := blk_frozen BK169.out 1; have hfz15_2 := blk_frozen BK169.out 2) | ((with_reducible refine gate_dst (N := 7) rfl ?_); (try (refine gate_guard (by rfl) ?_; dsimp only)); refine box_event ?hg (N := 7) ?hd (cs := #[.int .i64 0, .int .i64 0, .int .i64 0, .slice none 0 0, .slice none 0 0]) (t := 31) ?hr ?_; (case hd => rfl); (case hg => rfl); (case hr => first | (go_simp; done) | (go_simp; rfl) | (go_simp; simp only [zw_u32, zw_u8, zw_u32', zw_u8', IntKind.wrap_u32, IntKind.wrap_u8]; done) | (go_simp; simp only [zw_u32, zw_u8, zw_u32', zw_u8', IntKind.wrap_u32, IntKind.wrap_u8]; rfl)); intro gb170 hg w16 hbox hb; have n0_ := Aside0.mk (Kd.R_below (by (with_reducible repeat (first | apply Kd.R_alloc | apply Kd.R_drewN | apply Kd.R_drew)); exact (Kd.R_mono (Kd.R_far (p := ⟨gb169, 2, none⟩) (Kd.R_far (p := ⟨gb169, 1, none⟩) (Kd.R_far (p := ⟨gb169, 0, none⟩) (Kd.R_types HO158.out BK169.out (by decide)) (fun _ hk => hk.2) (.int .i64 t163)) (fun _ hk => hk.2) (.int .i64 t164)) (fun _ hk => hk.2) (.int .i64 t165)) (fun _ h_ => h_.1))) hb); have n1_ := Aside0.mk (blk_below (g := gb154) (o := .cells #[.int .i64 0, .int .i64 0, .int .i64 0, .slice none 0 0, .slice none 0 0] 31 (0, 0)) (by (with_reducible repeat (first | refine blk_drewN ?_ _ | refine blk_drew ?_ | refine blk_alloc ?_ _)); refine blk_far ?_ NB154_169.out _; (with_reducible repeat (first | refine blk_drewN ?_ _ | refine blk_drew ?_ | refine blk_alloc ?_ _)); refine blk_far ?_ NB154_169.out _; (with_reducible repeat (first | refine blk_drewN ?_ _ | refine blk_drew ?_ | refine blk_alloc ?_ _)); refine blk_far ?_ NB154_169.out _; (with_reducible repeat (first | refine blk_drewN ?_ _ | refine blk_drew ?_ | refine blk_alloc ?_ _)); exact BK154.out) hb); have n2_ := Aside0.mk (IsS48.below (show IsS48 w (((w12.setCell ⟨gb169, 0, none⟩ (.int .i64 t163)).setCell ⟨gb169, 1, none⟩ (.int .i64 t164)).setCell ⟨gb169, 2, none⟩ (.int .i64 t165)) gb155 t166 t167 t168 from by repeat (first | (with_reducible first | exact HI155.out | apply IsS48.alloc | apply IsS48.drewN | apply IsS48.drew | apply IsS48.set_0 | apply IsS48.set_1 | apply IsS48.set_2 | refine IsS48.far ?_ NB155_154.out _ | refine IsS48.far ?_ NB155_169.out _) | exact HI155.out)) hb); have n3_ := Aside0.mk (blk_below (g := gb169) (o := .cells #[.int .i64 t163, .int .i64 t164, .int .i64 t165] 41 (0, 0)) (by (with_reducible repeat (first | refine blk_drewN ?_ _ | refine blk_drew ?_ | refine blk_alloc ?_ _)); refine blk_put (cs := #[.int .i64 t163, .int .i64 t164, .int .i64 0]) ?_ 2 _ rfl; (with_reducible repeat (first | refine blk_drewN ?_ _ | refine blk_drew ?_ | refine blk_alloc ?_ _)); refine blk_put (cs := #[.int .i64 t163, .int .i64 0, .int .i64 0]) ?_ 1 _ rfl; (with_reducible repeat (first | refine blk_drewN ?_ _ | refine blk_drew ?_ | refine blk_alloc ?_ _)); refine blk_put (cs := #[.int .i64 0, .int .i64 0, .int .i64 0]) ?_ 0 _ rfl; (with_reducible repeat (first | refine blk_drewN ?_ _ | refine blk_drew ?_ | refine blk_alloc ?_ _)); exact BK169.out) hb); have n4_ := Aside0.mk (below_step (by repeat (first | (with_reducible first | exact HB.out | apply below_alloc | apply pw_below_drewN | apply below_drew1 | refine below_set ?_ (IsS48.ge HI155.out) | refine below_set ?_ GE154.out | refine below_set ?_ GE169.out) | exact HB.out)) hb); have n5_ := Aside0.mk (hbox); have n6_ := Aside0.mk ((by rw [hg]; exact (below_size (by repeat (first | (with_reducible first | exact HB.out | apply below_alloc | apply pw_below_drewN | apply below_drew1 | refine below_set ?_ (IsS48.ge HI155.out) | refine below_set ?_ GE154.out | refine below_set ?_ GE169.out) | exact HB.out))) : w.heap.size ≤ gb170)); have n7_ := Aside0.mk ((by rw [hg]; exact (below_size (by repeat (first | (with_reducible first | exact HB.out | apply below_alloc | apply pw_below_drewN | apply below_drew1 | refine below_set ?_ (IsS48.ge HI155.out) | refine below_set ?_ GE154.out | refine below_set ?_ GE169.out) | exact HB.out))) : w.heap.size ≤ gb170)); have n8_ := Aside0.mk ((by rw [hg]; exact Nat.ne_of_lt (blk_lt (g := gb154) (o := .cells #[.int .i64 0, .int .i64 0, .int .i64 0, .slice none 0 0, .slice none 0 0] 31 (0, 0)) (by (with_reducible repeat (first | refine blk_drewN ?_ _ | refine blk_drew ?_ | refine blk_alloc ?_ _)); refine blk_far ?_ NB154_169.out _; (with_reducible repeat (first | refine blk_drewN ?_ _ | refine blk_drew ?_ | refine blk_alloc ?_ _)); refine blk_far ?_ NB154_169.out _; (with_reducible repeat (first | refine blk_drewN ?_ _ | refine blk_drew ?_ | refine blk_alloc ?_ _)); refine blk_far ?_ NB154_169.out _; (with_reducible repeat (first | refine blk_drewN ?_ _ | refine blk_drew ?_ | refine blk_alloc ?_ _)); exact BK154.out)) : gb154 ≠ gb170)); have n9_ := Aside0.mk ((by rw [hg]; exact Nat.ne_of_gt (blk_lt (g := gb154) (o := .cells #[.int .i64 0, .int .i64 0, .int .i64 0, .slice none 0 0, .slice none 0 0] 31 (0, 0)) (by (with_reducible repeat (first | refine blk_drewN ?_ _ | refine blk_drew ?_ | refine blk_alloc ?_ _)); refine blk_far ?_ NB154_169.out _; (with_reducible repeat (first | refine blk_drewN ?_ _ | refine blk_drew ?_ | refine blk_alloc ?_ _)); refine blk_far ?_ NB154_169.out _; (with_reducible repeat (first | refine blk_drewN ?_ _ | refine blk_drew ?_ | refine blk_alloc ?_ _)); refine blk_far ?_ NB154_169.out _; (with_reducible repeat (first | refine blk_drewN ?_ _ | refine blk_drew ?_ | refine blk_alloc ?_ _)); exact BK154.out)) : gb170 ≠ gb154)); have n10_ := Aside0.mk ((by rw [hg]; exact Nat.ne_of_lt (blk_lt (g := gb169) (o := .cells #[.int .i64 t163, .int .i64 t164, .int .i64 t165] 41 (0, 0)) (by (with_reducible repeat (first | refine blk_drewN ?_ _ | refine blk_drew ?_ | refine blk_alloc ?_ _)); refine blk_put (cs := #[.int .i64 t163, .int .i64 t164, .int .i64 0]) ?_ 2 _ rfl; (with_reducible repeat (first | refine blk_drewN ?_ _ | refine blk_drew ?_ | refine blk_alloc ?_ _)); refine blk_put (cs := #[.int .i64 t163, .int .i64 0, .int .i64 0]) ?_ 1 _ rfl; (with_reducible repeat (first | refine blk_drewN ?_ _ | refine blk_drew ?_ | refine blk_alloc ?_ _)); refine blk_put (cs := #[.int .i64 0, .int .i64 0, .int .i64 0]) ?_ 0 _ rfl; (with_reducible repeat (first | refine blk_drewN ?_ _ | refine blk_drew ?_ | refine blk_alloc ?_ _)); exact BK169.out)) : gb169 ≠ gb170)); have n11_ := Aside0.mk ((by rw [hg]; exact Nat.ne_of_gt (blk_lt (g := gb169) (o := .cells #[.int .i64 t163, .int .i64 t164, .int .i64 t165] 41 (0, 0)) (by (with_reducible repeat (first | refine blk_drewN ?_ _ | refine blk_drew ?_ | refine blk_alloc ?_ _)); refine blk_put (cs := #[.int .i64 t163, .int .i64 t164, .int .i64 0]) ?_ 2 _ rfl; (with_reducible repeat (first | refine blk_drewN ?_ _ | refine blk_drew ?_ | refine blk_alloc ?_ _)); refine blk_put (cs := #[.int .i64 t163, .int .i64 0, .int .i64 0]) ?_ 1 _ rfl; (with_reducible repeat (first | refine blk_drewN ?_ _ | refine blk_drew ?_ | refine blk_alloc ?_ _)); refine blk_put (cs := #[.int .i64 0, .int .i64 0, .int .i64 0]) ?_ 0 _ rfl; (with_reducible repeat (first | refine blk_drewN ?_ _ | refine blk_drew ?_ | refine blk_alloc ?_ _)); exact BK169.out)) : gb170 ≠ gb169)); have n12_ := Aside0.mk ((by rw [hg]; exact Nat.ne_of_lt (IsS48.lt (show IsS48 w _ gb155 t166 t167 t168 from by repeat (first | (with_reducible first | exact HI155.out | apply IsS48.alloc | apply IsS48.drewN | apply IsS48.drew | apply IsS48.set_0 | apply IsS48.set_1 | apply IsS48.set_2 | refine IsS48.far ?_ NB155_154.out _ | refine IsS48.far ?_ NB155_169.out _) | exact HI155.out))) : gb155 ≠ gb170)); have n13_ := Aside0.mk ((by rw [hg]; exact Nat.ne_of_gt (IsS48.lt (show IsS48 w _ gb155 t166 t167 t168 from by repeat (first | (with_reducible first | exact HI155.out | apply IsS48.alloc | apply IsS48.drewN | apply IsS48.drew | apply IsS48.set_0 | apply IsS48.set_1 | apply IsS48.set_2 | refine IsS48.far ?_ NB155_154.out _ | refine IsS48.far ?_ NB155_169.out _) | exact HI155.out))) : gb170 ≠ gb155)); clear HO158; clear BK154; clear HI155; clear BK169; clear HB; have HO158 := n0_; have BK154 := n1_; have HI155 := n2_; have BK169 := n3_; have HB := n4_; have BK170 := n5_; have GW170 := n6_; have GE170 := n7_; have NB154_170 := n8_; have NB170_154 := n9_; have NB169_170 := n10_; have NB170_169 := n11_; have NB155_170 := n12_; have NB170_155 := n13_; clear n0_ n1_ n2_ n3_ n4_ n5_ n6_ n7_ n8_ n9_ n10_ n11_ n12_ n13_; clear hb hbox hg; have hnb17 := NB170_154.out; have hnc17 := NB154_170.out; have hnb18 := NB170_169.out; have hnc18 := NB169_170.out; have hnb19 := NB170_155.out; have hnc19 := NB155_170.out; have hcz20_0 : w16.cell? ⟨gb170, 0, none⟩ = some (.int .i64 0) := (blk_cell BK170.out 0).trans rfl; have hcz20_1 : w16.cell? ⟨gb170, 1, none⟩ = some (.int .i64 0) := (blk_cell BK170.out 1).trans rfl; have hcz20_2 : w16.cell? ⟨gb170, 2, none⟩ = some (.int .i64 0) := (blk_cell BK170.out 2).trans rfl; have hcz20_3 : w16.cell? ⟨gb170, 3, none⟩ = some (.slice none 0 0) := (blk_cell BK170.out 3).trans rfl; have hcz20_4 : w16.cell? ⟨gb170, 4, none⟩ = some (.slice none 0 0) := (blk_cell BK170.out 4).trans rfl; have hfz20_0 := blk_frozen BK170.out 0; have hfz20_1 := blk_frozen BK170.out 1; have hfz20_2 := blk_frozen BK170.out 2; have hfz20_3 := blk_frozen BK170.out 3; have hfz20_4 := blk_frozen BK170.out 4) | ((with_reducible refine gate_dst (N := 25) rfl ?_); (try (refine gate_guard (by rfl) ?_; dsimp only)); refine Kd.R_lit Kd.string _ 9 ?hg (N := 25) ?hd (xs := ([(⟨#[115, 105, 116, 101, 32]⟩ : ByteArray), (⟨#[102, 97, 99, 101, 32]⟩ : ByteArray), (⟨#[101, 110, 100, 10]⟩ : ByteArray)] : List ByteArray)) (inner := [.string (⟨#[115, 105, 116, 101, 32]⟩ : ByteArray), .string (⟨#[102, 97, 99, 101, 32]⟩ : ByteArray), .string (⟨#[101, 110, 100, 10]⟩ : ByteArray)]) (ok := fun _ => True) (okp := fun _ => True) ?hr ?hp (fun _ hk => hk) trivial (Below.refl _ _) (Nat.le_refl _) (by simp) ?_; (case hd => rfl); (case hg => rfl); (case hr => first | (go_simp; done) | (go_simp; rfl) | (go_simp; simp only [zw_u32, zw_u8, zw_u32', zw_u8', IntKind.wrap_u32, IntKind.wrap_u8]; done) | (go_simp; simp only [zw_u32, zw_u8, zw_u32', zw_u8', IntKind.wrap_u32, IntKind.wrap_u8]; rfl)); (case hp => exact (Reps.one (show Kd.M Kd.string _ _ _ (⟨#[115, 105, 116, 101, 32]⟩ : ByteArray) [.string (⟨#[115, 105, 116, 101, 32]⟩ : ByteArray)] from rfl) (Reps.one (show Kd.M Kd.string _ _ _ (⟨#[102, 97, 99, 101, 32]⟩ : ByteArray) [.string (⟨#[102, 97, 99, 101, 32]⟩ : ByteArray)] from rfl) (Reps.one (show Kd.M Kd.string _ _ _ (⟨#[101, 110, 100, 10]⟩ : ByteArray) [.string (⟨#[101, 110, 100, 10]⟩ : ByteArray)] from rfl) (Reps.none _ _))))); intro v172 w21 ho22 hb hg_ hnew_; clear hg_ hnew_; (first | rw [← Ny171.out] at ho22 | (simp only [Int.reduceToNat] at ho22; rw [← Ny171.out] at ho22)); have n0_ := Aside0.mk (Kd.R_elder' (by (with_reducible repeat (first | apply Kd.R_alloc | apply Kd.R_drewN | apply Kd.R_drew)); exact (Kd.R_mono (Kd.R_far (p := ⟨gb170, 4, none⟩) (Kd.R_far (p := ⟨gb170, 3, none⟩) (Kd.R_far (p := ⟨gb170, 2, none⟩) (Kd.R_far (p := ⟨gb170, 1, none⟩) (Kd.R_far (p := ⟨gb170, 0, none⟩) (Kd.R_types HO158.out BK170.out (by decide)) (fun _ hk => hk.2) (.int .i64 t163)) (fun _ hk => hk.2) (.int .i64 t164)) (fun _ hk => hk.2) (.int .i64 t165)) (fun _ hk => hk.2) (.slice none 0 0)) (fun _ hk => hk.2) (.slice none 0 0)) (fun _ h_ => h_.1))) (Kd.R_base ho22) hb); have n1_ := Aside0.mk (Kd.R_lower (Kd.R_new' ho22 (Kd.R_lt (by (with_reducible repeat (first | apply Kd.R_alloc | apply Kd.R_drewN | apply Kd.R_drew)); exact (Kd.R_mono (Kd.R_far (p := ⟨gb170, 4, none⟩) (Kd.R_far (p := ⟨gb170, 3, none⟩) (Kd.R_far (p := ⟨gb170, 2, none⟩) (Kd.R_far (p := ⟨gb170, 1, none⟩) (Kd.R_far (p := ⟨gb170, 0, none⟩) (Kd.R_types HO158.out BK170.out (by decide)) (fun _ hk => hk.2) (.int .i64 t163)) (fun _ hk => hk.2) (.int .i64 t164)) (fun _ hk => hk.2) (.int .i64 t165)) (fun _ hk => hk.2) (.slice none 0 0)) (fun _ hk => hk.2) (.slice none 0 0)) (fun _ h_ => h_.1))))) (below_size (by repeat (first | (with_reducible first | exact HB.out | apply below_alloc | apply pw_below_drewN | apply below_drew1 | refine below_set ?_ (IsS48.ge HI155.out) | refine below_set ?_ GE154.out | refine below_set ?_ GE169.out | refine below_set ?_ GE170.out) | exact HB.out)))); have n2_ := Aside0.mk (blk_below (g := gb154) (o := .cells #[.int .i64 0, .int .i64 0, .int .i64 0, .slice none 0 0, .slice none 0 0] 31 (0, 0)) (by (with_reducible repeat (first | refine blk_drewN ?_ _ | refine blk_drew ?_ | refine blk_alloc ?_ _)); refine blk_far ?_ NB154_170.out _; (with_reducible repeat (first | refine blk_drewN ?_ _ | refine blk_drew ?_ | refine blk_alloc ?_ _)); refine blk_far ?_ NB154_170.out _; (with_reducible repeat (first | refine blk_drewN ?_ _ | refine blk_drew ?_ | refine blk_alloc ?_ _)); refine blk_far ?_ NB154_170.out _; (with_reducible repeat (first | refine blk_drewN ?_ _ | refine blk_drew ?_ | refine blk_alloc ?_ _)); refine blk_far ?_ NB154_170.out _; (with_reducible repeat (first | refine blk_drewN ?_ _ | refine blk_drew ?_ | refine blk_alloc ?_ _)); refine blk_far ?_ NB154_170.out _; (with_reducible repeat (first | refine blk_drewN ?_ _ | refine blk_drew ?_ | refine blk_alloc ?_ _)); exact BK154.out) hb); have n3_ := Aside0.mk (IsS48.below (show IsS48 w (((((w16.setCell ⟨gb170, 0, none⟩ (.int .i64 t163)).setCell ⟨gb170, 1, none⟩ (.int .i64 t164)).setCell ⟨gb170, 2, none⟩ (.int .i64 t165)).setCell ⟨gb170, 3, none⟩ (.slice none 0 0)).setCell ⟨gb170, 4, none⟩ (.slice none 0 0)) gb155 t166 t167 t168 from by repeat (first | (with_reducible first | exact HI155.out | apply IsS48.alloc | apply IsS48.drewN | apply IsS48.drew | apply IsS48.set_0 | apply IsS48.set_1 | apply IsS48.set_2 | refine IsS48.far ?_ NB155_154.out _ | refine IsS48.far ?_ NB155_169.out _ | refine IsS48.far ?_ NB155_170.out _) | exact HI155.out)) hb); have n4_ := Aside0.mk (blk_below (g := gb169) (o := .cells #[.int .i64 t163, .int .i64 t164, .int .i64 t165] 41 (0, 0)) (by (with_reducible repeat (first | refine blk_drewN ?_ _ | refine blk_drew ?_ | refine blk_alloc ?_ _)); refine blk_far ?_ NB169_170.out _; (with_reducible repeat (first | refine blk_drewN ?_ _ | refine blk_drew ?_ | refine blk_alloc ?_ _)); refine blk_far ?_ NB169_170.out _; (with_reducible repeat (first | refine blk_drewN ?_ _ | refine blk_drew ?_ | refine blk_alloc ?_ _)); refine blk_far ?_ NB169_170.out _; (with_reducible repeat (first | refine blk_drewN ?_ _ | refine blk_drew ?_ | refine blk_alloc ?_ _)); refine blk_far ?_ NB169_170.out _; (with_reducible repeat (first | refine blk_drewN ?_ _ | refine blk_drew ?_ | refine blk_alloc ?_ _)); refine blk_far ?_ NB169_170.out _; (with_reducible repeat (first | refine blk_drewN ?_ _ | refine blk_drew ?_ | refine blk_alloc ?_ _)); exact BK169.out) hb); have n5_ := Aside0.mk (blk_below (g := gb170) (o := .cells #[.int .i64 t163, .int .i64 t164, .int .i64 t165, .slice none 0 0, .slice none 0 0] 31 (0, 0)) (by (with_reducible repeat (first | refine blk_drewN ?_ _ | refine blk_drew ?_ | refine blk_alloc ?_ _)); refine blk_put (cs := #[.int .i64 t163, .int .i64 t164, .int .i64 t165, .slice none 0 0, .slice none 0 0]) ?_ 4 _ rfl; (with_reducible repeat (first | refine blk_drewN ?_ _ | refine blk_drew ?_ | refine blk_alloc ?_ _)); refine blk_put (cs := #[.int .i64 t163, .int .i64 t164, .int .i64 t165, .slice none 0 0, .slice none 0 0]) ?_ 3 _ rfl; (with_reducible repeat (first | refine blk_drewN ?_ _ | refine blk_drew ?_ | refine blk_alloc ?_ _)); refine blk_put (cs := #[.int .i64 t163, .int .i64 t164, .int .i64 0, .slice none 0 0, .slice none 0 0]) ?_ 2 _ rfl; (with_reducible repeat (first | refine blk_drewN ?_ _ | refine blk_drew ?_ | refine blk_alloc ?_ _)); refine blk_put (cs := #[.int .i64 t163, .int .i64 0, .int .i64 0, .slice none 0 0, .slice none 0 0]) ?_ 1 _ rfl; (with_reducible repeat (first | refine blk_drewN ?_ _ | refine blk_drew ?_ | refine blk_alloc ?_ _)); refine blk_put (cs := #[.int .i64 0, .int .i64 0, .int .i64 0, .slice none 0 0, .slice none 0 0]) ?_ 0 _ rfl; (with_reducible repeat (first | refine blk_drewN ?_ _ | refine blk_drew ?_ | refine blk_alloc ?_ _)); exact BK170.out) hb); have n6_ := Aside0.mk (below_step (by repeat (first | (with_reducible first | exact HB.out | apply below_alloc | apply pw_below_drewN | apply below_drew1 | refine below_set ?_ (IsS48.ge HI155.out) | refine below_set ?_ GE154.out | refine below_set ?_ GE169.out | refine below_set ?_ GE170.out) | exact HB.out)) hb); clear HO158; clear BK154; clear HI155; clear BK169; clear BK170; clear HB; have HO158 := n0_; have HO173 := n1_; have BK154 := n2_; have HI155 := n3_; have BK169 := n4_; have BK170 := n5_; have HB := n6_; clear n0_ n1_ n2_ n3_ n4_ n5_ n6_; clear hb ho22; obtain ⟨Ao23, co23, eo23⟩ := Kd.R_slice HO173.out; subst eo23) | ((with_reducible refine gate_callee (f := 20) rfl ?_); refine goesL_ (some 26) rfl rfl Try.func20 (by kernel_rfl) rfl #[.pointer (some ⟨gb155, 0, none⟩), .slice Ao23 y171.length co23] rfl (by (try simp only [List.map_toArray, List.map_cons, List.map_nil]); first | done | rfl | (simp only [List.length_drop, List.length_take]; rfl)) ?_; (with_reducible refine (file_reader_word.calls k gb155 t166 t167 t168 _ _ y171 t174 t175 t176 t177 w _ ?side1 ?side2 ?side3 ?side4 ?side5 A4.out).mono ?_); (case side1 => repeat (first | (with_reducible first | exact HI155.out | apply IsS48.alloc | apply IsS48.drewN | apply IsS48.drew | apply IsS48.set_0 | apply IsS48.set_1 | apply IsS48.set_2 | refine IsS48.far ?_ NB155_154.out _ | refine IsS48.far ?_ NB155_169.out _ | refine IsS48.far ?_ NB155_170.out _) | exact HI155.out)); (case side2 => repeat (first | (with_reducible first | exact HB.out | apply below_alloc | apply pw_below_drewN | apply below_drew1 | refine below_set ?_ (IsS48.ge HI155.out) | refine below_set ?_ GE154.out | refine below_set ?_ GE169.out | refine below_set ?_ GE170.out) | exact HB.out)); (case side3 => repeat (first | exact (Kd.R_reads' HO173.out).2.2 | (with_reducible refine Kd.C_alloc ?_ _) | (with_reducible refine Kd.C_drewN ?_ _) | (with_reducible refine Kd.C_drew ?_))); (case side4 => exact (Kd.R_reads' HO173.out).2.1); (case side5 => exact far_slice (IsS48.own_ne HI155.out HO173.out (by decide))); rintro e w24 ⟨rfl, hi, hb, hk⟩; refine ⟨_, rfl, ?_⟩; have n0_ := Aside0.mk (KeepBut.blk hk (g' := gb154) (o := .cells #[.int .i64 0, .int .i64 0, .int .i64 0, .slice none 0 0, .slice none 0 0] 31 (0, 0)) (by (with_reducible repeat (first | refine blk_drewN ?_ _ | refine blk_drew ?_ | refine blk_alloc ?_ _)); exact BK154.out) NB154_155.out (by simp)); have n1_ := Aside0.mk (Kd.R_mono (Kd.R_keep (IsS48.apart (show IsS48 w _ gb155 t166 t167 t168 from by repeat (first | (with_reducible first | exact HI155.out | apply IsS48.alloc | apply IsS48.drewN | apply IsS48.drew | apply IsS48.set_0 | apply IsS48.set_1 | apply IsS48.set_2 | refine IsS48.far ?_ NB155_154.out _ | refine IsS48.far ?_ NB155_169.out _ | refine IsS48.far ?_ NB155_170.out _) | exact HI155.out)) (by (with_reducible repeat (first | apply Kd.R_alloc | apply Kd.R_drewN | apply Kd.R_drew)); exact HO158.out) (by decide)) hk (fun _ h => h.2)) (fun _ h => h.1)); have n2_ := Aside0.mk (KeepBut.blk hk (g' := gb169) (o := .cells #[.int .i64 t163, .int .i64 t164, .int .i64 t165] 41 (0, 0)) (by (with_reducible repeat (first | refine blk_drewN ?_ _ | refine blk_drew ?_ | refine blk_alloc ?_ _)); exact BK169.out) NB169_155.out (by simp)); have n3_ := Aside0.mk (KeepBut.blk hk (g' := gb170) (o := .cells #[.int .i64 t163, .int .i64 t164, .int .i64 t165, .slice none 0 0, .slice none 0 0] 31 (0, 0)) (by (with_reducible repeat (first | refine blk_drewN ?_ _ | refine blk_drew ?_ | refine blk_alloc ?_ _)); exact BK170.out) NB170_155.out (by simp)); have n4_ := Aside0.mk (Kd.R_mono (Kd.R_keep (IsS48.apart (show IsS48 w _ gb155 t166 t167 t168 from by repeat (first | (with_reducible first | exact HI155.out | apply IsS48.alloc | apply IsS48.drewN | apply IsS48.drew | apply IsS48.set_0 | apply IsS48.set_1 | apply IsS48.set_2 | refine IsS48.far ?_ NB155_154.out _ | refine IsS48.far ?_ NB155_169.out _ | refine IsS48.far ?_ NB155_170.out _) | exact HI155.out)) (by (with_reducible repeat (first | apply Kd.R_alloc | apply Kd.R_drewN | apply Kd.R_drew)); exact HO173.out) (by decide)) hk (fun _ h => h.2)) (fun _ h => h.1)); have n5_ := Aside0.mk (hb); have n6_ := Aside0.mk (hi); clear BK154; clear HO158; clear BK169; clear BK170; clear HO173; clear HB; clear HI155; have BK154 := n0_; have HO158 := n1_; have BK169 := n2_; have BK170 := n3_; have HO173 := n4_; have HB := n5_; have HI155 := n6_; clear n0_ n1_ n2_ n3_ n4_ n5_ n6_; (try clear hb); (try clear hb2); (try clear hk); (try clear hi)))
  go_loopg [8] k (fun kq v8 w' => ∃ (x8_1 : Int) (x156000_1 : ByteArray) (x156001_1 : Int) (x156002_1 : Bool) (x171003_1 : List (S41)) (u171003 : Value), v8 = .int .i64 x8_1 ∧ Aside0 (file_Parse.l0 kq a0 x8_1 x156000_1 x156001_1 x156002_1 t163 t164 t165 x171003_1 = some (r1, r2, r3, r4, r5, r6, r7)) ∧ Aside0 (kq ≤ k) ∧ Aside0 (Kd.R k41 41 w' w.heap.size (fun k_ => k_ ≠ gb169) u171003 x171003_1) ∧ Aside0 (w'.heap[gb154]? = some (.cells #[.int .i64 0, .int .i64 0, .int .i64 0, (.slice none 0 0), (.slice none 0 0)] 31 (0, 0))) ∧ Aside0 (w'.heap[gb169]? = some (.cells #[.int .i64 t163, .int .i64 t164, .int .i64 t165] 41 (0, 0))) ∧ Aside0 (w'.heap[gb170]? = some (.cells #[.int .i64 t163, .int .i64 t164, .int .i64 t165, u171003, (.slice none 0 0)] 31 (0, 0))) ∧ Aside0 (IsS48 w w' gb155 x156000_1 x156001_1 x156002_1) ∧ Aside0 (Below w.heap.size w w'))
  case atStart => exact ⟨(t174), (t175), (t176), (t177), (([] : List (S41))), (.slice none 0 0), (by first | rfl | (simp; done) | (simp [*]; done)), H', ⟨Nat.le_refl _⟩, ⟨by first | exact Kd.R_nil _ _ _ _ _ | exact Kd.N_nil _ _ _ _ _ | exact Kd.V_nil _ _ _ _ _ | exact Kd.Q_nil _ _ _ _ _ | exact Kd.S_nil _ _ _ _ _⟩, ⟨by (with_reducible repeat (first | refine blk_drewN ?_ _ | refine blk_drew ?_ | refine blk_alloc ?_ _)); exact BK154.out⟩, ⟨by (with_reducible repeat (first | refine blk_drewN ?_ _ | refine blk_drew ?_ | refine blk_alloc ?_ _)); exact BK169.out⟩, ⟨by (with_reducible repeat (first | refine blk_drewN ?_ _ | refine blk_drew ?_ | refine blk_alloc ?_ _)); exact BK170.out⟩, ⟨by repeat (first | (with_reducible first | exact HI155.out | apply IsS48.alloc | apply IsS48.drewN | apply IsS48.drew | apply IsS48.set_0 | apply IsS48.set_1 | apply IsS48.set_2 | refine IsS48.far ?_ NB155_154.out _ | refine IsS48.far ?_ NB155_169.out _ | refine IsS48.far ?_ NB155_170.out _) | exact HI155.out)⟩, ⟨by repeat (first | (with_reducible first | exact HB.out | apply below_alloc | apply pw_below_drewN | apply below_drew1 | refine below_set ?_ (IsS48.ge HI155.out) | refine below_set ?_ GE154.out | refine below_set ?_ GE169.out | refine below_set ?_ GE170.out) | exact HB.out)⟩⟩
  case round =>
    clear H'
    try clear c1
    try clear c2
    try clear p2
    try clear c11
    try clear c13
    try clear c14
    try clear c17
    try clear c18
    try clear c19
    try clear c20
    try clear c21
    try clear hcz15_0
    try clear hcz15_1
    try clear hcz15_2
    try clear hcz20_0
    try clear hcz20_1
    try clear hcz20_2
    try clear hcz20_3
    try clear hcz20_4
    try clear hfz15_0
    try clear hfz15_1
    try clear hfz15_2
    try clear hfz20_0
    try clear hfz20_1
    try clear hfz20_2
    try clear hfz20_3
    try clear hfz20_4
    obtain ⟨x8_1, x156000_1, x156001_1, x156002_1, x171003_1, u171003, rfl, HA, HK1, HO_171003, BK154, BK169, BK170, HI155, HB⟩ := hrel
    cases gk with
    | zero => exact absurd HA.out (by simp [file_Parse.l0])
    | succ k1 =>
      have H := HA.out
      clear HA
      simp only [file_Parse.l0] at H
      by_cases c25 : x8_1 = 0
      · rw [if_pos c25] at H
        have c25b0 : (x8_1 == 0) = true := beq_iff_eq.mpr c25
        have c25b1 : (x8_1 != 0) = false := bne_eq_false_iff_eq.mpr c25
        clear c25
        obtain ⟨⟨t178, t179, t180, t181, t182, t183⟩, A26, H⟩ := bindE H
        replace H : (if x171003_1.length < 5864062014805 then ((file_reader_word.f k1 t181 t182 t183 (([(⟨#[115, 105, 116, 101, 32]⟩ : ByteArray), (⟨#[102, 97, 99, 101, 32]⟩ : ByteArray), (⟨#[101, 110, 100, 10]⟩ : ByteArray)] : List ByteArray))).bind fun bt190 => (file_Parse.l0 k1 a0 bt190.1 bt190.2.1 bt190.2.2.1 bt190.2.2.2 t163 t164 t165 (x171003_1 ++ [(⟨t178, t179, t180⟩ : S41)]))) else (none)) = some (r1, r2, r3, r4, r5, r6, r7) := H
        by_cases c27 : x171003_1.length < 5864062014805
        · rw [if_pos c27] at H
          have LMc27 := Aside0.mk c27
          clear c27
          obtain ⟨y184, hy184⟩ : ∃ y_ : List (S41), y_ = (x171003_1 ++ [(⟨t178, t179, t180⟩ : S41)]) := ⟨_, rfl⟩
          replace H : ((file_reader_word.f k1 t181 t182 t183 (([(⟨#[115, 105, 116, 101, 32]⟩ : ByteArray), (⟨#[102, 97, 99, 101, 32]⟩ : ByteArray), (⟨#[101, 110, 100, 10]⟩ : ByteArray)] : List ByteArray))).bind fun bt190 => (file_Parse.l0 k1 a0 bt190.1 bt190.2.1 bt190.2.2.1 bt190.2.2.2 t163 t164 t165 y184)) = some (r1, r2, r3, r4, r5, r6, r7) := by first | (rw [hy184]; with_reducible exact H) | (have H2_ := (Option.bind_some _ _).symm.trans H; rw [hy184]; with_reducible exact H2_) | (have H2_ := (Option.bind_some _ _).symm.trans H; with_reducible exact H2_) | with_reducible exact H | (rw [hy184]; exact H) | exact H
          have Ny184 := Aside0.mk hy184
          clear hy184
          obtain ⟨y187, hy187⟩ : ∃ y_ : List ByteArray, y_ = (([(⟨#[115, 105, 116, 101, 32]⟩ : ByteArray), (⟨#[102, 97, 99, 101, 32]⟩ : ByteArray), (⟨#[101, 110, 100, 10]⟩ : ByteArray)] : List ByteArray)) := ⟨_, rfl⟩
          replace H : ((file_reader_word.f k1 t181 t182 t183 y187).bind fun bt190 => (file_Parse.l0 k1 a0 bt190.1 bt190.2.1 bt190.2.2.1 bt190.2.2.2 t163 t164 t165 y184)) = some (r1, r2, r3, r4, r5, r6, r7) := by first | (rw [hy187]; with_reducible exact H) | (have H2_ := (Option.bind_some _ _).symm.trans H; rw [hy187]; with_reducible exact H2_) | (have H2_ := (Option.bind_some _ _).symm.trans H; with_reducible exact H2_) | with_reducible exact H | (rw [hy187]; exact H) | exact H
          have Ny187 := Aside0.mk hy187
          clear hy187
          obtain ⟨⟨t190, t191, t192, t193⟩, A28, H⟩ := bindE H
          replace H : (file_Parse.l0 k1 a0 t190 t191 t192 t193 t163 t164 t165 y184) = some (r1, r2, r3, r4, r5, r6, r7) := H
          have H' := Aside0.mk H
          clear H
          try go_wp2
          have n0_ := Aside0.mk (Kd.R_drew HO_171003.out)
          have n1_ := Aside0.mk (blk_drew BK154.out)
          have n2_ := Aside0.mk (blk_drew BK169.out)
          have n3_ := Aside0.mk (blk_drew BK170.out)
          have n4_ := Aside0.mk (IsS48.drew HI155.out)
          have n5_ := Aside0.mk (below_drew1 HB.out)
          clear HO_171003
          clear BK154
          clear BK169
          clear BK170
          clear HI155
          clear HB
          have HO_171003 := n0_
          have BK154 := n1_
          have BK169 := n2_
          have BK170 := n3_
          have HI155 := n4_
          have HB := n5_
          clear n0_ n1_ n2_ n3_ n4_ n5_
          refine start_ (n := 8) (S := fun w' => w'.cell? ⟨gb170, 0, none⟩ = some (.int .i64 t163) ∧ w'.cell? ⟨gb170, 1, none⟩ = some (.int .i64 t164) ∧ w'.cell? ⟨gb170, 2, none⟩ = some (.int .i64 t165) ∧ w'.cell? ⟨gb170, 3, none⟩ = some (u171003) ∧ w'.cell? ⟨gb170, 4, none⟩ = some (.slice none 0 0)) (ds := [7]) #[false, false, false, false, false, false, false, false] (by kernel_rfl) rfl rfl ⟨(blk_cell BK170.out 0).trans rfl, (blk_cell BK170.out 1).trans rfl, (blk_cell BK170.out 2).trans rfl, (blk_cell BK170.out 3).trans rfl, (blk_cell BK170.out 4).trans rfl⟩ (fun hHeld => ?_); refine with_tabW file_Parse.tab8 file_Parse.bits8 (fun HT_ HW_ => ?_)
          generalize wr.drew = w29 at HO_171003 BK154 BK169 BK170 HI155 HB hHeld ⊢
          refine pure_ (i := 0) (N := some 32) (v := ?_) (a' := ?_) #[true, false, false, false, false, false, false, false] rfl rfl (any_of HT_.out (by kernel_rfl)) (fun _ _ _ h => h) (Or.inl ⟨by rfl, ?_⟩) ?_ ?_
          rotate_left
          · intro w'
            go_simp
            with_reducible rfl
          rotate_left
          · simp only [Act.put, List.setIfInBounds_toArray, List.set_cons_zero, List.set_cons_succ, i64_w, i32_w]
            rfl
          refine pure_ (i := 2) (N := some 34) (v := ?_) (a' := ?_) #[true, false, true, false, false, false, false, false] rfl rfl (any_of HT_.out (by kernel_rfl)) (fun _ _ _ h => h) (Or.inl ⟨by rfl, ?_⟩) ?_ ?_
          rotate_left
          · intro w'
            go_simp
            with_reducible rfl
          rotate_left
          · simp only [Act.put, List.setIfInBounds_toArray, List.set_cons_zero, List.set_cons_succ, i64_w, i32_w]
            rfl
          refine take_ (i := 1) (N := some 33) (v := ?_) (a' := ?_) #[true, true, true, false, false, false, false, false] rfl rfl (take_ofW HT_.out HW_.out (by kernel_rfl)) (fun _ _ _ h => h) (Or.inl ⟨by rfl, ?_⟩) hHeld ?_ ?_
          rotate_left
          · rintro w' ⟨s0, s1, s2, s3, s4⟩
            go_simp
            with_reducible rfl
          rotate_left
          · simp only [Act.put, List.setIfInBounds_toArray, List.set_cons_zero, List.set_cons_succ, i64_w, i32_w]
            rfl
          refine one_ (i := 3) (N := some 35) #[true, true, true, true, false, false, false, false] rfl rfl (one_of HT_.out (by kernel_rfl)) (by decide) (fun K hK => ?_)
          refine goes_ Try.func21 (by kernel_rfl) rfl #[.pointer (some ⟨gb155, 0, none⟩), .bool false, .string (⟨#[10]⟩ : ByteArray)] (by rfl) rfl rfl (by (try simp only [List.map_toArray, List.map_cons, List.map_nil]); first | done | rfl | (simp only [List.length_drop, List.length_take]; rfl)) ?_
          with_reducible refine (file_reader_three.calls k1 gb155 x156000_1 x156001_1 x156002_1 false (⟨#[10]⟩ : ByteArray) t178 t179 t180 t181 t182 t183 w _ ?side1 ?side2 A26.out).mono ?_
          (case side1 => repeat (first | (with_reducible first | exact HI155.out | apply IsS48.alloc | apply IsS48.drewN | apply IsS48.drew | apply IsS48.set_0 | apply IsS48.set_1 | apply IsS48.set_2 | refine IsS48.far ?_ NB155_154.out _ | refine IsS48.far ?_ NB155_169.out _ | refine IsS48.far ?_ NB155_170.out _) | exact HI155.out))
          (case side2 => repeat (first | (with_reducible first | exact HB.out | apply below_alloc | apply pw_below_drewN | apply below_drew1 | refine below_set ?_ (IsS48.ge HI155.out) | refine below_set ?_ GE154.out | refine below_set ?_ GE169.out | refine below_set ?_ GE170.out) | exact HB.out))
          rintro e w30 ⟨rfl, hi, hb, hk⟩
          refine ⟨_, rfl, ?_⟩
          have n0_ := Aside0.mk (Kd.R_mono (Kd.R_keep (IsS48.apart (show IsS48 w _ gb155 x156000_1 x156001_1 x156002_1 from by repeat (first | (with_reducible first | exact HI155.out | apply IsS48.alloc | apply IsS48.drewN | apply IsS48.drew | apply IsS48.set_0 | apply IsS48.set_1 | apply IsS48.set_2 | refine IsS48.far ?_ NB155_154.out _ | refine IsS48.far ?_ NB155_169.out _ | refine IsS48.far ?_ NB155_170.out _) | exact HI155.out)) (by (with_reducible repeat (first | apply Kd.R_alloc | apply Kd.R_drewN | apply Kd.R_drew)); exact HO_171003.out) (by decide)) hk (fun _ h => h.2)) (fun _ h => h.1))
          have n1_ := Aside0.mk (KeepBut.blk hk (g' := gb154) (o := .cells #[.int .i64 0, .int .i64 0, .int .i64 0, .slice none 0 0, .slice none 0 0] 31 (0, 0)) (by (with_reducible repeat (first | refine blk_drewN ?_ _ | refine blk_drew ?_ | refine blk_alloc ?_ _)); exact BK154.out) NB154_155.out (by simp))
          have n2_ := Aside0.mk (KeepBut.blk hk (g' := gb169) (o := .cells #[.int .i64 t163, .int .i64 t164, .int .i64 t165] 41 (0, 0)) (by (with_reducible repeat (first | refine blk_drewN ?_ _ | refine blk_drew ?_ | refine blk_alloc ?_ _)); exact BK169.out) NB169_155.out (by simp))
          have n3_ := Aside0.mk (KeepBut.blk hk (g' := gb170) (o := .cells #[.int .i64 t163, .int .i64 t164, .int .i64 t165, u171003, .slice none 0 0] 31 (0, 0)) (by (with_reducible repeat (first | refine blk_drewN ?_ _ | refine blk_drew ?_ | refine blk_alloc ?_ _)); exact BK170.out) NB170_155.out (by simp))
          have n4_ := Aside0.mk (hb)
          have n5_ := Aside0.mk (hi)
          clear HO_171003
          clear BK154
          clear BK169
          clear BK170
          clear HB
          clear HI155
          have HO_171003 := n0_
          have BK154 := n1_
          have BK169 := n2_
          have BK170 := n3_
          have HB := n4_
          have HI155 := n5_
          clear n0_ n1_ n2_ n3_ n4_ n5_
          (try clear hb)
          (try clear hb2)
          (try clear hk)
          (try clear hi)
          refine hK.out _ _ ⟨(blk_cell BK170.out 0).trans rfl, (blk_cell BK170.out 1).trans rfl, (blk_cell BK170.out 2).trans rfl, (blk_cell BK170.out 3).trans rfl, (blk_cell BK170.out 4).trans rfl⟩ (fun hHeld => ?_)
          clear hK K
          refine norm_ (a' := ?_) ?_ ?_
          rotate_left
          · show Act.put _ (some 35) _ = _
            simp only [Act.put, List.setIfInBounds_toArray, List.set_cons_zero, List.set_cons_succ, i64_w, i32_w]
            rfl
          refine one_ (i := 4) (N := some 36) #[true, true, true, true, true, false, false, false] rfl rfl (one_of HT_.out (by kernel_rfl)) (by decide) (fun K hK => ?_)
          refine value_ (w1 := ?_) (v := ?_) (by rfl) rfl ?_ ?_
          rotate_left 2
          · go_simp
            constructor
            · rfl
            · rfl
          refine hK.out _ _ ⟨(blk_cell (blk_alloc BK170.out _) 0).trans rfl, (blk_cell (blk_alloc BK170.out _) 1).trans rfl, (blk_cell (blk_alloc BK170.out _) 2).trans rfl, (blk_cell (blk_alloc BK170.out _) 3).trans rfl, (blk_cell (blk_alloc BK170.out _) 4).trans rfl⟩ (fun hHeld => ?_)
          clear hK K
          refine norm_ (a' := ?_) ?_ ?_
          rotate_left
          · show Act.put _ (some 36) _ = _
            simp only [Act.put, List.setIfInBounds_toArray, List.set_cons_zero, List.set_cons_succ, i64_w, i32_w]
            rfl
          refine one_ (i := 5) (N := some 37) #[true, true, true, true, true, true, false, false] rfl rfl (one_of HT_.out (by kernel_rfl)) (by decide) (fun K hK => ?_)
          refine Kd.R_append_step k41 (w0 := w) w.heap.size (by rfl) (.tmp 33) (.tmp 36) 22 41 (.agg #[(.int .i64 0), (.int .i64 0), (.int .i64 0)]) 24 rfl Try.underlying22 info41 rfl (by decide) (by omega) u171003 x171003_1 (⟨t178, t179, t180⟩ : S41) [.int .i64 t178, .int .i64 t179, .int .i64 t180] (fun k_ => k_ ≠ gb169) (fun _ => False) rfl rfl ?aP (fun _ hk => hk.elim) ?aF ?aO ?aB ?aS ?aL ?_
          (case aP => exact k41_mkM _ _ _ (⟨t178, t179, t180⟩ : S41))
          (case aB => exact (by repeat (first | (with_reducible first | exact HB.out | apply below_alloc | apply pw_below_drewN | apply below_drew1 | refine below_set ?_ (IsS48.ge HI155.out) | refine below_set ?_ GE154.out | refine below_set ?_ GE169.out | refine below_set ?_ GE170.out) | exact HB.out)))
          (case aF => exact (fun k_ hk => Kd.freshB (g := gb169) (o := .cells #[.int .i64 t163, .int .i64 t164, .int .i64 t165] 41 (0, 0)) (by (with_reducible repeat (first | refine blk_drewN ?_ _ | refine blk_drew ?_ | refine blk_alloc ?_ _)); exact BK169.out) k_ hk))
          (case aO => exact (by (with_reducible repeat (first | apply Kd.R_alloc | apply Kd.R_drewN | apply Kd.R_drew)); exact HO_171003.out))
          (case aS => exact (below_size (by repeat (first | (with_reducible first | exact HB.out | apply below_alloc | apply pw_below_drewN | apply below_drew1 | refine below_set ?_ (IsS48.ge HI155.out) | refine below_set ?_ GE154.out | refine below_set ?_ GE169.out | refine below_set ?_ GE170.out) | exact HB.out))))
          (case aL => have := LMc27.out; omega)
          intro v185 w31 ho hb hg hat
          rw [← Ny184.out] at ho
          have n0_ := Aside0.mk (blk_grown (g := gb154) (o := .cells #[.int .i64 0, .int .i64 0, .int .i64 0, .slice none 0 0, .slice none 0 0] 31 (0, 0)) (by (with_reducible repeat (first | refine blk_drewN ?_ _ | refine blk_drew ?_ | refine blk_alloc ?_ _)); exact BK154.out) hg (Kd.R_ne HO_171003.out BK154.out (by decide)))
          have n1_ := Aside0.mk (blk_grown (g := gb169) (o := .cells #[.int .i64 t163, .int .i64 t164, .int .i64 t165] 41 (0, 0)) (by (with_reducible repeat (first | refine blk_drewN ?_ _ | refine blk_drew ?_ | refine blk_alloc ?_ _)); exact BK169.out) hg (Kd.R_away HO_171003.out (fun _ hk => hk)))
          have n2_ := Aside0.mk (blk_grown (g := gb170) (o := .cells #[.int .i64 t163, .int .i64 t164, .int .i64 t165, u171003, .slice none 0 0] 31 (0, 0)) (by (with_reducible repeat (first | refine blk_drewN ?_ _ | refine blk_drew ?_ | refine blk_alloc ?_ _)); exact BK170.out) hg (Kd.R_ne HO_171003.out BK170.out (by decide)))
          have n3_ := Aside0.mk (IsS48.grown (show IsS48 w _ gb155 t181 t182 t183 from by repeat (first | (with_reducible first | exact HI155.out | apply IsS48.alloc | apply IsS48.drewN | apply IsS48.drew | apply IsS48.set_0 | apply IsS48.set_1 | apply IsS48.set_2 | refine IsS48.far ?_ NB155_154.out _ | refine IsS48.far ?_ NB155_169.out _ | refine IsS48.far ?_ NB155_170.out _) | exact HI155.out)) hg (IsS48.own_ne HI155.out HO_171003.out (by decide)))
          have n4_ := Aside0.mk (hb)
          have n5_ := Aside0.mk (ho)
          clear BK154
          clear BK169
          clear BK170
          clear HI155
          clear HB
          clear HO_171003
          have BK154 := n0_
          have BK169 := n1_
          have BK170 := n2_
          have HI155 := n3_
          have HB := n4_
          have HO186 := n5_
          clear n0_ n1_ n2_ n3_ n4_ n5_
          clear ho hb hg hat
          obtain ⟨Ao32, co32, eo32⟩ := Kd.R_slice HO186.out
          (first | subst eo32 | (injection eo32 with f1_ f2_ f3_; have f4_ := f1_.symm; have f5_ := f3_.symm; clear f1_ f2_ f3_; subst f4_; subst f5_))
          refine hK.out _ _ ⟨(blk_cell BK170.out 0).trans rfl, (blk_cell BK170.out 1).trans rfl, (blk_cell BK170.out 2).trans rfl, (blk_cell BK170.out 3).trans rfl, (blk_cell BK170.out 4).trans rfl⟩ (fun hHeld => ?_)
          clear hK K
          refine norm_ (a' := ?_) ?_ ?_
          rotate_left
          · show Act.put _ (some 37) _ = _
            simp only [Act.put, List.setIfInBounds_toArray, List.set_cons_zero, List.set_cons_succ, i64_w, i32_w]
            rfl
          refine pure_ (i := 6) (N := some 38) (v := ?_) (a' := ?_) #[true, true, true, true, true, true, true, false] rfl rfl (any_of HT_.out (by kernel_rfl)) (fun _ _ _ h => h) (Or.inl ⟨by rfl, ?_⟩) ?_ ?_
          rotate_left
          · intro w'
            go_simp
            with_reducible rfl
          rotate_left
          · simp only [Act.put, List.setIfInBounds_toArray, List.set_cons_zero, List.set_cons_succ, i64_w, i32_w]
            rfl
          refine last_ (i := 7) (N := none) #[true, true, true, true, true, true, true, true] rfl rfl (one_of HT_.out (by kernel_rfl)) (by decide) (fun K hK => ?_)
          have hs33 : w31.cell? ⟨gb170, 3, none⟩ = some (u171003) := (blk_cell BK170.out 3).trans rfl
          have hfs33 := blk_frozen BK170.out 3
          have hns33_0 := NB154_170.out
          have hns33_1 := NB169_170.out
          have hms33_0 := NB170_154.out
          have hms33_1 := NB170_169.out
          refine skip_ (w1 := ?_) (by rfl) rfl ?_ ?_
          rotate_left
          · go_simp
            rfl
          refine hK.out _ _ ?_
          clear hK K
          refine done_ (done_of HT_.out (by kernel_rfl)) ?_
          try go_wp2_with (first | ((with_reducible refine gate_dst (N := 30) rfl ?_); (try (refine gate_guard (by rfl) ?_; dsimp only)); refine Kd.R_lit Kd.string _ 9 ?hg (N := 30) ?hd (xs := ([(⟨#[115, 105, 116, 101, 32]⟩ : ByteArray), (⟨#[102, 97, 99, 101, 32]⟩ : ByteArray), (⟨#[101, 110, 100, 10]⟩ : ByteArray)] : List ByteArray)) (inner := [.string (⟨#[115, 105, 116, 101, 32]⟩ : ByteArray), .string (⟨#[102, 97, 99, 101, 32]⟩ : ByteArray), .string (⟨#[101, 110, 100, 10]⟩ : ByteArray)]) (ok := fun _ => True) (okp := fun _ => True) ?hr ?hp (fun _ hk => hk) trivial (Below.refl _ _) (Nat.le_refl _) (by simp) ?_; (case hd => rfl); (case hg => rfl); (case hr => first | (go_simp; done) | (go_simp; rfl) | (go_simp; simp only [zw_u32, zw_u8, zw_u32', zw_u8', IntKind.wrap_u32, IntKind.wrap_u8]; done) | (go_simp; simp only [zw_u32, zw_u8, zw_u32', zw_u8', IntKind.wrap_u32, IntKind.wrap_u8]; rfl)); (case hp => exact (Reps.one (show Kd.M Kd.string _ _ _ (⟨#[115, 105, 116, 101, 32]⟩ : ByteArray) [.string (⟨#[115, 105, 116, 101, 32]⟩ : ByteArray)] from rfl) (Reps.one (show Kd.M Kd.string _ _ _ (⟨#[102, 97, 99, 101, 32]⟩ : ByteArray) [.string (⟨#[102, 97, 99, 101, 32]⟩ : ByteArray)] from rfl) (Reps.one (show Kd.M Kd.string _ _ _ (⟨#[101, 110, 100, 10]⟩ : ByteArray) [.string (⟨#[101, 110, 100, 10]⟩ : ByteArray)] from rfl) (Reps.none _ _))))); intro v188 w34 ho35 hb hg_ hnew_; clear hg_ hnew_; (first | rw [← Ny187.out] at ho35 | (simp only [Int.reduceToNat] at ho35; rw [← Ny187.out] at ho35)); have n0_ := Aside0.mk (Kd.R_below (by (with_reducible repeat (first | apply Kd.R_alloc | apply Kd.R_drewN | apply Kd.R_drew)); exact (Kd.R_mono (Kd.R_far (p := ⟨gb170, 3, none⟩) (Kd.R_types HO186.out BK170.out (by decide)) (fun _ hk => hk.2) (.slice Ao32 y184.length co32)) (fun _ h_ => h_.1))) hb); have n1_ := Aside0.mk (Kd.R_lower ho35 (below_size (by repeat (first | (with_reducible first | exact HB.out | apply below_alloc | apply pw_below_drewN | apply below_drew1 | refine below_set ?_ (IsS48.ge HI155.out) | refine below_set ?_ GE154.out | refine below_set ?_ GE169.out | refine below_set ?_ GE170.out) | exact HB.out)))); have n2_ := Aside0.mk (blk_below (g := gb154) (o := .cells #[.int .i64 0, .int .i64 0, .int .i64 0, .slice none 0 0, .slice none 0 0] 31 (0, 0)) (by (with_reducible repeat (first | refine blk_drewN ?_ _ | refine blk_drew ?_ | refine blk_alloc ?_ _)); refine blk_far ?_ NB154_170.out _; (with_reducible repeat (first | refine blk_drewN ?_ _ | refine blk_drew ?_ | refine blk_alloc ?_ _)); exact BK154.out) hb); have n3_ := Aside0.mk (blk_below (g := gb169) (o := .cells #[.int .i64 t163, .int .i64 t164, .int .i64 t165] 41 (0, 0)) (by (with_reducible repeat (first | refine blk_drewN ?_ _ | refine blk_drew ?_ | refine blk_alloc ?_ _)); refine blk_far ?_ NB169_170.out _; (with_reducible repeat (first | refine blk_drewN ?_ _ | refine blk_drew ?_ | refine blk_alloc ?_ _)); exact BK169.out) hb); have n4_ := Aside0.mk (blk_below (g := gb170) (o := .cells #[.int .i64 t163, .int .i64 t164, .int .i64 t165, .slice Ao32 y184.length co32, .slice none 0 0] 31 (0, 0)) (by (with_reducible repeat (first | refine blk_drewN ?_ _ | refine blk_drew ?_ | refine blk_alloc ?_ _)); refine blk_put (cs := #[.int .i64 t163, .int .i64 t164, .int .i64 t165, u171003, .slice none 0 0]) ?_ 3 _ rfl; (with_reducible repeat (first | refine blk_drewN ?_ _ | refine blk_drew ?_ | refine blk_alloc ?_ _)); exact BK170.out) hb); have n5_ := Aside0.mk (IsS48.below (show IsS48 w (w31.setCell ⟨gb170, 3, none⟩ (.slice Ao32 y184.length co32)) gb155 t181 t182 t183 from by repeat (first | (with_reducible first | exact HI155.out | apply IsS48.alloc | apply IsS48.drewN | apply IsS48.drew | apply IsS48.set_0 | apply IsS48.set_1 | apply IsS48.set_2 | refine IsS48.far ?_ NB155_154.out _ | refine IsS48.far ?_ NB155_169.out _ | refine IsS48.far ?_ NB155_170.out _) | exact HI155.out)) hb); have n6_ := Aside0.mk (below_step (by repeat (first | (with_reducible first | exact HB.out | apply below_alloc | apply pw_below_drewN | apply below_drew1 | refine below_set ?_ (IsS48.ge HI155.out) | refine below_set ?_ GE154.out | refine below_set ?_ GE169.out | refine below_set ?_ GE170.out) | exact HB.out)) hb); clear HO186; clear BK154; clear BK169; clear BK170; clear HI155; clear HB; have HO186 := n0_; have HO189 := n1_; have BK154 := n2_; have BK169 := n3_; have BK170 := n4_; have HI155 := n5_; have HB := n6_; clear n0_ n1_ n2_ n3_ n4_ n5_ n6_; clear hb ho35; obtain ⟨Ao36, co36, eo36⟩ := Kd.R_slice HO189.out; subst eo36) | ((with_reducible refine gate_callee (f := 20) rfl ?_); refine goesL_ (some 31) rfl rfl Try.func20 (by kernel_rfl) rfl #[.pointer (some ⟨gb155, 0, none⟩), .slice Ao36 y187.length co36] rfl (by (try simp only [List.map_toArray, List.map_cons, List.map_nil]); first | done | rfl | (simp only [List.length_drop, List.length_take]; rfl)) ?_; (with_reducible refine (file_reader_word.calls k1 gb155 t181 t182 t183 _ _ y187 t190 t191 t192 t193 w _ ?side1 ?side2 ?side3 ?side4 ?side5 A28.out).mono ?_); (case side1 => repeat (first | (with_reducible first | exact HI155.out | apply IsS48.alloc | apply IsS48.drewN | apply IsS48.drew | apply IsS48.set_0 | apply IsS48.set_1 | apply IsS48.set_2 | refine IsS48.far ?_ NB155_154.out _ | refine IsS48.far ?_ NB155_169.out _ | refine IsS48.far ?_ NB155_170.out _) | exact HI155.out)); (case side2 => repeat (first | (with_reducible first | exact HB.out | apply below_alloc | apply pw_below_drewN | apply below_drew1 | refine below_set ?_ (IsS48.ge HI155.out) | refine below_set ?_ GE154.out | refine below_set ?_ GE169.out | refine below_set ?_ GE170.out) | exact HB.out)); (case side3 => repeat (first | exact (Kd.R_reads' HO189.out).2.2 | (with_reducible refine Kd.C_alloc ?_ _) | (with_reducible refine Kd.C_drewN ?_ _) | (with_reducible refine Kd.C_drew ?_))); (case side4 => exact (Kd.R_reads' HO189.out).2.1); (case side5 => exact far_slice (IsS48.own_ne HI155.out HO189.out (by decide))); rintro e w37 ⟨rfl, hi, hb, hk⟩; refine ⟨_, rfl, ?_⟩; have n0_ := Aside0.mk (KeepBut.blk hk (g' := gb154) (o := .cells #[.int .i64 0, .int .i64 0, .int .i64 0, .slice none 0 0, .slice none 0 0] 31 (0, 0)) (by (with_reducible repeat (first | refine blk_drewN ?_ _ | refine blk_drew ?_ | refine blk_alloc ?_ _)); exact BK154.out) NB154_155.out (by simp)); have n1_ := Aside0.mk (KeepBut.blk hk (g' := gb169) (o := .cells #[.int .i64 t163, .int .i64 t164, .int .i64 t165] 41 (0, 0)) (by (with_reducible repeat (first | refine blk_drewN ?_ _ | refine blk_drew ?_ | refine blk_alloc ?_ _)); exact BK169.out) NB169_155.out (by simp)); have n2_ := Aside0.mk (KeepBut.blk hk (g' := gb170) (o := .cells #[.int .i64 t163, .int .i64 t164, .int .i64 t165, .slice Ao32 y184.length co32, .slice none 0 0] 31 (0, 0)) (by (with_reducible repeat (first | refine blk_drewN ?_ _ | refine blk_drew ?_ | refine blk_alloc ?_ _)); exact BK170.out) NB170_155.out (by simp)); have n3_ := Aside0.mk (Kd.R_mono (Kd.R_keep (IsS48.apart (show IsS48 w _ gb155 t181 t182 t183 from by repeat (first | (with_reducible first | exact HI155.out | apply IsS48.alloc | apply IsS48.drewN | apply IsS48.drew | apply IsS48.set_0 | apply IsS48.set_1 | apply IsS48.set_2 | refine IsS48.far ?_ NB155_154.out _ | refine IsS48.far ?_ NB155_169.out _ | refine IsS48.far ?_ NB155_170.out _) | exact HI155.out)) (by (with_reducible repeat (first | apply Kd.R_alloc | apply Kd.R_drewN | apply Kd.R_drew)); exact HO186.out) (by decide)) hk (fun _ h => h.2)) (fun _ h => h.1)); have n4_ := Aside0.mk (Kd.R_mono (Kd.R_keep (IsS48.apart (show IsS48 w _ gb155 t181 t182 t183 from by repeat (first | (with_reducible first | exact HI155.out | apply IsS48.alloc | apply IsS48.drewN | apply IsS48.drew | apply IsS48.set_0 | apply IsS48.set_1 | apply IsS48.set_2 | refine IsS48.far ?_ NB155_154.out _ | refine IsS48.far ?_ NB155_169.out _ | refine IsS48.far ?_ NB155_170.out _) | exact HI155.out)) (by (with_reducible repeat (first | apply Kd.R_alloc | apply Kd.R_drewN | apply Kd.R_drew)); exact HO189.out) (by decide)) hk (fun _ h => h.2)) (fun _ h => h.1)); have n5_ := Aside0.mk (hb); have n6_ := Aside0.mk (hi); clear BK154; clear BK169; clear BK170; clear HO186; clear HO189; clear HB; clear HI155; have BK154 := n0_; have BK169 := n1_; have BK170 := n2_; have HO186 := n3_; have HO189 := n4_; have HB := n5_; have HI155 := n6_; clear n0_ n1_ n2_ n3_ n4_ n5_ n6_; (try clear hb); (try clear hb2); (try clear hk); (try clear hi)))
          go_roundg k1
          case measure => have := HK1.out; omega
          case rel => exact ⟨(t190), (t191), (t192), (t193), (y184), (.slice Ao32 y184.length co32), (by first | rfl | (simp; done) | (simp [*]; done)), H', ⟨by have := HK1.out; omega⟩, ⟨by (with_reducible repeat (first | apply Kd.R_alloc | apply Kd.R_drewN | apply Kd.R_drew)); first | exact HO186.out | exact Kd.R_mono HO186.out (fun k_ hk_ => by simp only [ownBlock_norm] at hk_ ⊢; exact hk_)⟩, ⟨by (with_reducible repeat (first | refine blk_drewN ?_ _ | refine blk_drew ?_ | refine blk_alloc ?_ _)); exact BK154.out⟩, ⟨by (with_reducible repeat (first | refine blk_drewN ?_ _ | refine blk_drew ?_ | refine blk_alloc ?_ _)); exact BK169.out⟩, ⟨by (with_reducible repeat (first | refine blk_drewN ?_ _ | refine blk_drew ?_ | refine blk_alloc ?_ _)); exact BK170.out⟩, ⟨by repeat (first | (with_reducible first | exact HI155.out | apply IsS48.alloc | apply IsS48.drewN | apply IsS48.drew | apply IsS48.set_0 | apply IsS48.set_1 | apply IsS48.set_2 | refine IsS48.far ?_ NB155_154.out _ | refine IsS48.far ?_ NB155_169.out _ | refine IsS48.far ?_ NB155_170.out _) | exact HI155.out)⟩, ⟨by repeat (first | (with_reducible first | exact HB.out | apply below_alloc | apply pw_below_drewN | apply below_drew1 | refine below_set ?_ (IsS48.ge HI155.out) | refine below_set ?_ GE154.out | refine below_set ?_ GE169.out | refine below_set ?_ GE170.out) | exact HB.out)⟩⟩
        · rw [if_neg c27] at H
          exact absurd H (by simp)
      · rw [if_neg c25] at H
        have c25b0 : (x8_1 == 0) = false := beq_eq_false_iff_ne.mpr c25
        have c25b1 : (x8_1 != 0) = true := bne_iff_ne.mpr c25
        have H' := Aside0.mk H
        clear H
        go_wp2
        go_loopg [8] k1 (fun kq v8 w' => ∃ (x8_2 : Int) (x156000_2 : ByteArray) (x156001_2 : Int) (x156002_2 : Bool) (x171004_2 : List (S50)) (u171004 : Value), v8 = .int .i64 x8_2 ∧ Aside0 (file_Parse.l1 kq a0 x8_2 x156000_2 x156001_2 x156002_2 t163 t164 t165 x171003_1 x171004_2 = some (r1, r2, r3, r4, r5, r6, r7)) ∧ Aside0 (kq ≤ k1) ∧ Aside0 (Kd.R k41 41 w' w.heap.size (fun k_ => k_ ≠ gb169) u171003 x171003_1) ∧ Aside0 (Kd.R k50 50 w' w.heap.size (fun _ => True) u171004 x171004_2) ∧ Aside0 (w'.heap[gb154]? = some (.cells #[.int .i64 0, .int .i64 0, .int .i64 0, (.slice none 0 0), (.slice none 0 0)] 31 (0, 0))) ∧ Aside0 (w'.heap[gb169]? = some (.cells #[.int .i64 t163, .int .i64 t164, .int .i64 t165] 41 (0, 0))) ∧ Aside0 (w'.heap[gb170]? = some (.cells #[.int .i64 t163, .int .i64 t164, .int .i64 t165, u171003, u171004] 31 (0, 0))) ∧ Aside0 (IsS48 w w' gb155 x156000_2 x156001_2 x156002_2) ∧ Aside0 (Below w.heap.size w w'))
        case atStart => exact ⟨(x8_1), (x156000_1), (x156001_1), (x156002_1), (([] : List (S50))), (.slice none 0 0), (by first | rfl | (simp; done) | (simp [*]; done)), H', ⟨Nat.le_refl _⟩, ⟨by (with_reducible repeat (first | apply Kd.R_alloc | apply Kd.R_drewN | apply Kd.R_drew)); first | exact HO_171003.out | exact Kd.R_mono HO_171003.out (fun k_ hk_ => by simp only [ownBlock_norm] at hk_ ⊢; exact hk_)⟩, ⟨by first | exact Kd.R_nil _ _ _ _ _ | exact Kd.N_nil _ _ _ _ _ | exact Kd.V_nil _ _ _ _ _ | exact Kd.Q_nil _ _ _ _ _ | exact Kd.S_nil _ _ _ _ _⟩, ⟨by (with_reducible repeat (first | refine blk_drewN ?_ _ | refine blk_drew ?_ | refine blk_alloc ?_ _)); exact BK154.out⟩, ⟨by (with_reducible repeat (first | refine blk_drewN ?_ _ | refine blk_drew ?_ | refine blk_alloc ?_ _)); exact BK169.out⟩, ⟨by (with_reducible repeat (first | refine blk_drewN ?_ _ | refine blk_drew ?_ | refine blk_alloc ?_ _)); exact BK170.out⟩, ⟨by repeat (first | (with_reducible first | exact HI155.out | apply IsS48.alloc | apply IsS48.drewN | apply IsS48.drew | apply IsS48.set_0 | apply IsS48.set_1 | apply IsS48.set_2 | refine IsS48.far ?_ NB155_154.out _ | refine IsS48.far ?_ NB155_169.out _ | refine IsS48.far ?_ NB155_170.out _) | exact HI155.out)⟩, ⟨by repeat (first | (with_reducible first | exact HB.out | apply below_alloc | apply pw_below_drewN | apply below_drew1 | refine below_set ?_ (IsS48.ge HI155.out) | refine below_set ?_ GE154.out | refine below_set ?_ GE169.out | refine below_set ?_ GE170.out) | exact HB.out)⟩⟩
        case round =>
          clear H'
          try clear c1
          try clear c2
          try clear p2
          try clear c11
          try clear c13
          try clear c14
          try clear c17
          try clear c18
          try clear c19
          try clear c20
          try clear c21
          try clear c25
          try clear c25b0
          try clear c25b1
          try clear c27
          try clear hcz15_0
          try clear hcz15_1
          try clear hcz15_2
          try clear hcz20_0
          try clear hcz20_1
          try clear hcz20_2
          try clear hcz20_3
          try clear hcz20_4
          try clear hfz15_0
          try clear hfz15_1
          try clear hfz15_2
          try clear hfz20_0
          try clear hfz20_1
          try clear hfz20_2
          try clear hfz20_3
          try clear hfz20_4
          try clear p2
          obtain ⟨x8_2, x156000_2, x156001_2, x156002_2, x171004_2, u171004, rfl, HA, HK2, HO_171003, HO_171004, BK154, BK169, BK170, HI155, HB⟩ := hrel
          cases gk with
          | zero => exact absurd HA.out (by simp [file_Parse.l1])
          | succ k2 =>
            have H := HA.out
            clear HA
            simp only [file_Parse.l1] at H
            by_cases c38 : x8_2 = 1
            · rw [if_pos c38] at H
              have c38b0 : (x8_2 == 1) = true := beq_iff_eq.mpr c38
              have c38b1 : (x8_2 != 1) = false := bne_eq_false_iff_eq.mpr c38
              clear c38
              obtain ⟨⟨t194, t195, t196, t197, t198, t199, t200, t201, t202, t203, t204, t205⟩, A39, H⟩ := bindE H
              replace H : (if x171004_2.length < 1954687338268 then ((file_reader_word.f k2 t203 t204 t205 (([(⟨#[101, 110, 100, 10]⟩ : ByteArray), (⟨#[102, 97, 99, 101, 32]⟩ : ByteArray)] : List ByteArray))).bind fun bt212 => (file_Parse.l1 k2 a0 bt212.1 bt212.2.1 bt212.2.2.1 bt212.2.2.2 t163 t164 t165 x171003_1 (x171004_2 ++ [(⟨(⟨t194, t195, t196⟩ : S41), (⟨t197, t198, t199⟩ : S41), (⟨t200, t201, t202⟩ : S41)⟩ : S50)]))) else (none)) = some (r1, r2, r3, r4, r5, r6, r7) := H
              by_cases c40 : x171004_2.length < 1954687338268
              · rw [if_pos c40] at H
                have LMc40 := Aside0.mk c40
                clear c40
                obtain ⟨y206, hy206⟩ : ∃ y_ : List (S50), y_ = (x171004_2 ++ [(⟨(⟨t194, t195, t196⟩ : S41), (⟨t197, t198, t199⟩ : S41), (⟨t200, t201, t202⟩ : S41)⟩ : S50)]) := ⟨_, rfl⟩
                replace H : ((file_reader_word.f k2 t203 t204 t205 (([(⟨#[101, 110, 100, 10]⟩ : ByteArray), (⟨#[102, 97, 99, 101, 32]⟩ : ByteArray)] : List ByteArray))).bind fun bt212 => (file_Parse.l1 k2 a0 bt212.1 bt212.2.1 bt212.2.2.1 bt212.2.2.2 t163 t164 t165 x171003_1 y206)) = some (r1, r2, r3, r4, r5, r6, r7) := by first | (rw [hy206]; with_reducible exact H) | (have H2_ := (Option.bind_some _ _).symm.trans H; rw [hy206]; with_reducible exact H2_) | (have H2_ := (Option.bind_some _ _).symm.trans H; with_reducible exact H2_) | with_reducible exact H | (rw [hy206]; exact H) | exact H
                have Ny206 := Aside0.mk hy206
                clear hy206
                obtain ⟨y209, hy209⟩ : ∃ y_ : List ByteArray, y_ = (([(⟨#[101, 110, 100, 10]⟩ : ByteArray), (⟨#[102, 97, 99, 101, 32]⟩ : ByteArray)] : List ByteArray)) := ⟨_, rfl⟩
                replace H : ((file_reader_word.f k2 t203 t204 t205 y209).bind fun bt212 => (file_Parse.l1 k2 a0 bt212.1 bt212.2.1 bt212.2.2.1 bt212.2.2.2 t163 t164 t165 x171003_1 y206)) = some (r1, r2, r3, r4, r5, r6, r7) := by first | (rw [hy209]; with_reducible exact H) | (have H2_ := (Option.bind_some _ _).symm.trans H; rw [hy209]; with_reducible exact H2_) | (have H2_ := (Option.bind_some _ _).symm.trans H; with_reducible exact H2_) | with_reducible exact H | (rw [hy209]; exact H) | exact H
                have Ny209 := Aside0.mk hy209
                clear hy209
                obtain ⟨⟨t212, t213, t214, t215⟩, A41, H⟩ := bindE H
                replace H : (file_Parse.l1 k2 a0 t212 t213 t214 t215 t163 t164 t165 x171003_1 y206) = some (r1, r2, r3, r4, r5, r6, r7) := H
                have H' := Aside0.mk H
                clear H
                try go_wp2
                have n0_ := Aside0.mk (Kd.R_drew HO_171003.out)
                have n1_ := Aside0.mk (Kd.R_drew HO_171004.out)
                have n2_ := Aside0.mk (blk_drew BK154.out)
                have n3_ := Aside0.mk (blk_drew BK169.out)
                have n4_ := Aside0.mk (blk_drew BK170.out)
                have n5_ := Aside0.mk (IsS48.drew HI155.out)
                have n6_ := Aside0.mk (below_drew1 HB.out)
                clear HO_171003
                clear HO_171004
                clear BK154
                clear BK169
                clear BK170
                clear HI155
                clear HB
                have HO_171003 := n0_
                have HO_171004 := n1_
                have BK154 := n2_
                have BK169 := n3_
                have BK170 := n4_
                have HI155 := n5_
                have HB := n6_
                clear n0_ n1_ n2_ n3_ n4_ n5_ n6_
                refine start_ (n := 8) (S := fun w' => w'.cell? ⟨gb170, 0, none⟩ = some (.int .i64 t163) ∧ w'.cell? ⟨gb170, 1, none⟩ = some (.int .i64 t164) ∧ w'.cell? ⟨gb170, 2, none⟩ = some (.int .i64 t165) ∧ w'.cell? ⟨gb170, 3, none⟩ = some (u171003) ∧ w'.cell? ⟨gb170, 4, none⟩ = some (u171004)) (ds := [7]) #[false, false, false, false, false, false, false, false] (by kernel_rfl) rfl rfl ⟨(blk_cell BK170.out 0).trans rfl, (blk_cell BK170.out 1).trans rfl, (blk_cell BK170.out 2).trans rfl, (blk_cell BK170.out 3).trans rfl, (blk_cell BK170.out 4).trans rfl⟩ (fun hHeld => ?_); refine with_tabW file_Parse.tab11 file_Parse.bits11 (fun HT_ HW_ => ?_)
                generalize wr.drew = w42 at HO_171003 HO_171004 BK154 BK169 BK170 HI155 HB hHeld ⊢
                refine pure_ (i := 0) (N := some 44) (v := ?_) (a' := ?_) #[true, false, false, false, false, false, false, false] rfl rfl (any_of HT_.out (by kernel_rfl)) (fun _ _ _ h => h) (Or.inl ⟨by rfl, ?_⟩) ?_ ?_
                rotate_left
                · intro w'
                  go_simp
                  with_reducible rfl
                rotate_left
                · simp only [Act.put, List.setIfInBounds_toArray, List.set_cons_zero, List.set_cons_succ, i64_w, i32_w]
                  rfl
                refine pure_ (i := 2) (N := some 46) (v := ?_) (a' := ?_) #[true, false, true, false, false, false, false, false] rfl rfl (any_of HT_.out (by kernel_rfl)) (fun _ _ _ h => h) (Or.inl ⟨by rfl, ?_⟩) ?_ ?_
                rotate_left
                · intro w'
                  go_simp
                  with_reducible rfl
                rotate_left
                · simp only [Act.put, List.setIfInBounds_toArray, List.set_cons_zero, List.set_cons_succ, i64_w, i32_w]
                  rfl
                refine take_ (i := 1) (N := some 45) (v := ?_) (a' := ?_) #[true, true, true, false, false, false, false, false] rfl rfl (take_ofW HT_.out HW_.out (by kernel_rfl)) (fun _ _ _ h => h) (Or.inl ⟨by rfl, ?_⟩) hHeld ?_ ?_
                rotate_left
                · rintro w' ⟨s0, s1, s2, s3, s4⟩
                  go_simp
                  with_reducible rfl
                rotate_left
                · simp only [Act.put, List.setIfInBounds_toArray, List.set_cons_zero, List.set_cons_succ, i64_w, i32_w]
                  rfl
                refine one_ (i := 3) (N := some 47) #[true, true, true, true, false, false, false, false] rfl rfl (one_of HT_.out (by kernel_rfl)) (by decide) (fun K hK => ?_)
                refine goes_ Try.func22 (by kernel_rfl) rfl #[.pointer (some ⟨gb155, 0, none⟩)] (by rfl) rfl rfl (by (try simp only [List.map_toArray, List.map_cons, List.map_nil]); first | done | rfl | (simp only [List.length_drop, List.length_take]; rfl)) ?_
                with_reducible refine (file_reader_corners.calls k2 gb155 x156000_2 x156001_2 x156002_2 t194 t195 t196 t197 t198 t199 t200 t201 t202 t203 t204 t205 w _ ?side1 ?side2 A39.out).mono ?_
                (case side1 => repeat (first | (with_reducible first | exact HI155.out | apply IsS48.alloc | apply IsS48.drewN | apply IsS48.drew | apply IsS48.set_0 | apply IsS48.set_1 | apply IsS48.set_2 | refine IsS48.far ?_ NB155_154.out _ | refine IsS48.far ?_ NB155_169.out _ | refine IsS48.far ?_ NB155_170.out _) | exact HI155.out))
                (case side2 => repeat (first | (with_reducible first | exact HB.out | apply below_alloc | apply pw_below_drewN | apply below_drew1 | refine below_set ?_ (IsS48.ge HI155.out) | refine below_set ?_ GE154.out | refine below_set ?_ GE169.out | refine below_set ?_ GE170.out) | exact HB.out))
                rintro e w43 ⟨rfl, hi, hb, hk⟩
                refine ⟨_, rfl, ?_⟩
                have n0_ := Aside0.mk (Kd.R_mono (Kd.R_keep (IsS48.apart (show IsS48 w _ gb155 x156000_2 x156001_2 x156002_2 from by repeat (first | (with_reducible first | exact HI155.out | apply IsS48.alloc | apply IsS48.drewN | apply IsS48.drew | apply IsS48.set_0 | apply IsS48.set_1 | apply IsS48.set_2 | refine IsS48.far ?_ NB155_154.out _ | refine IsS48.far ?_ NB155_169.out _ | refine IsS48.far ?_ NB155_170.out _) | exact HI155.out)) (by (with_reducible repeat (first | apply Kd.R_alloc | apply Kd.R_drewN | apply Kd.R_drew)); exact HO_171003.out) (by decide)) hk (fun _ h => h.2)) (fun _ h => h.1))
                have n1_ := Aside0.mk (Kd.R_mono (Kd.R_keep (IsS48.apart (show IsS48 w _ gb155 x156000_2 x156001_2 x156002_2 from by repeat (first | (with_reducible first | exact HI155.out | apply IsS48.alloc | apply IsS48.drewN | apply IsS48.drew | apply IsS48.set_0 | apply IsS48.set_1 | apply IsS48.set_2 | refine IsS48.far ?_ NB155_154.out _ | refine IsS48.far ?_ NB155_169.out _ | refine IsS48.far ?_ NB155_170.out _) | exact HI155.out)) (by (with_reducible repeat (first | apply Kd.R_alloc | apply Kd.R_drewN | apply Kd.R_drew)); exact HO_171004.out) (by decide)) hk (fun _ h => h.2)) (fun _ h => h.1))
                have n2_ := Aside0.mk (KeepBut.blk hk (g' := gb154) (o := .cells #[.int .i64 0, .int .i64 0, .int .i64 0, .slice none 0 0, .slice none 0 0] 31 (0, 0)) (by (with_reducible repeat (first | refine blk_drewN ?_ _ | refine blk_drew ?_ | refine blk_alloc ?_ _)); exact BK154.out) NB154_155.out (by simp))
                have n3_ := Aside0.mk (KeepBut.blk hk (g' := gb169) (o := .cells #[.int .i64 t163, .int .i64 t164, .int .i64 t165] 41 (0, 0)) (by (with_reducible repeat (first | refine blk_drewN ?_ _ | refine blk_drew ?_ | refine blk_alloc ?_ _)); exact BK169.out) NB169_155.out (by simp))
                have n4_ := Aside0.mk (KeepBut.blk hk (g' := gb170) (o := .cells #[.int .i64 t163, .int .i64 t164, .int .i64 t165, u171003, u171004] 31 (0, 0)) (by (with_reducible repeat (first | refine blk_drewN ?_ _ | refine blk_drew ?_ | refine blk_alloc ?_ _)); exact BK170.out) NB170_155.out (by simp))
                have n5_ := Aside0.mk (hb)
                have n6_ := Aside0.mk (hi)
                clear HO_171003
                clear HO_171004
                clear BK154
                clear BK169
                clear BK170
                clear HB
                clear HI155
                have HO_171003 := n0_
                have HO_171004 := n1_
                have BK154 := n2_
                have BK169 := n3_
                have BK170 := n4_
                have HB := n5_
                have HI155 := n6_
                clear n0_ n1_ n2_ n3_ n4_ n5_ n6_
                (try clear hb)
                (try clear hb2)
                (try clear hk)
                (try clear hi)
                refine hK.out _ _ ⟨(blk_cell BK170.out 0).trans rfl, (blk_cell BK170.out 1).trans rfl, (blk_cell BK170.out 2).trans rfl, (blk_cell BK170.out 3).trans rfl, (blk_cell BK170.out 4).trans rfl⟩ (fun hHeld => ?_)
                clear hK K
                refine norm_ (a' := ?_) ?_ ?_
                rotate_left
                · show Act.put _ (some 47) _ = _
                  simp only [Act.put, List.setIfInBounds_toArray, List.set_cons_zero, List.set_cons_succ, i64_w, i32_w]
                  rfl
                refine one_ (i := 4) (N := some 48) #[true, true, true, true, true, false, false, false] rfl rfl (one_of HT_.out (by kernel_rfl)) (by decide) (fun K hK => ?_)
                refine value_ (w1 := ?_) (v := ?_) (by rfl) rfl ?_ ?_
                rotate_left 2
                · go_simp
                  constructor
                  · rfl
                  · rfl
                refine hK.out _ _ ⟨(blk_cell (blk_alloc BK170.out _) 0).trans rfl, (blk_cell (blk_alloc BK170.out _) 1).trans rfl, (blk_cell (blk_alloc BK170.out _) 2).trans rfl, (blk_cell (blk_alloc BK170.out _) 3).trans rfl, (blk_cell (blk_alloc BK170.out _) 4).trans rfl⟩ (fun hHeld => ?_)
                clear hK K
                refine norm_ (a' := ?_) ?_ ?_
                rotate_left
                · show Act.put _ (some 48) _ = _
                  simp only [Act.put, List.setIfInBounds_toArray, List.set_cons_zero, List.set_cons_succ, i64_w, i32_w]
                  rfl
                refine one_ (i := 5) (N := some 49) #[true, true, true, true, true, true, false, false] rfl rfl (one_of HT_.out (by kernel_rfl)) (by decide) (fun K hK => ?_)
                refine Kd.R_append_step k50 (w0 := w) w.heap.size (by rfl) (.tmp 45) (.tmp 48) 29 50 (.agg #[(.int .i64 0), (.int .i64 0), (.int .i64 0), (.int .i64 0), (.int .i64 0), (.int .i64 0), (.int .i64 0), (.int .i64 0), (.int .i64 0)]) 72 rfl Try.underlying29 info50 rfl (by decide) (by omega) u171004 x171004_2 (⟨(⟨t194, t195, t196⟩ : S41), (⟨t197, t198, t199⟩ : S41), (⟨t200, t201, t202⟩ : S41)⟩ : S50) [.int .i64 t194, .int .i64 t195, .int .i64 t196, .int .i64 t197, .int .i64 t198, .int .i64 t199, .int .i64 t200, .int .i64 t201, .int .i64 t202] (fun _ => True) (fun _ => False) rfl rfl ?aP (fun _ hk => hk.elim) ?aF ?aO ?aB ?aS ?aL ?_
                (case aP => exact k50_mkM _ _ _ (⟨(⟨t194, t195, t196⟩ : S41), (⟨t197, t198, t199⟩ : S41), (⟨t200, t201, t202⟩ : S41)⟩ : S50))
                (case aB => exact (by repeat (first | (with_reducible first | exact HB.out | apply below_alloc | apply pw_below_drewN | apply below_drew1 | refine below_set ?_ (IsS48.ge HI155.out) | refine below_set ?_ GE154.out | refine below_set ?_ GE169.out | refine below_set ?_ GE170.out) | exact HB.out)))
                (case aF => exact (fun _ _ => trivial))
                (case aO => exact (by (with_reducible repeat (first | apply Kd.R_alloc | apply Kd.R_drewN | apply Kd.R_drew)); exact HO_171004.out))
                (case aS => exact (below_size (by repeat (first | (with_reducible first | exact HB.out | apply below_alloc | apply pw_below_drewN | apply below_drew1 | refine below_set ?_ (IsS48.ge HI155.out) | refine below_set ?_ GE154.out | refine below_set ?_ GE169.out | refine below_set ?_ GE170.out) | exact HB.out))))
                (case aL => have := LMc40.out; omega)
                intro v207 w44 ho hb hg hat
                rw [← Ny206.out] at ho
                have n0_ := Aside0.mk (Kd.R_over' (by (with_reducible repeat (first | apply Kd.R_alloc | apply Kd.R_drewN | apply Kd.R_drew)); exact HO_171003.out) (Kd.R_typed (by (with_reducible repeat (first | apply Kd.R_alloc | apply Kd.R_drewN | apply Kd.R_drew)); exact HO_171004.out)) (by decide) hg)
                have n1_ := Aside0.mk (blk_grown (g := gb154) (o := .cells #[.int .i64 0, .int .i64 0, .int .i64 0, .slice none 0 0, .slice none 0 0] 31 (0, 0)) (by (with_reducible repeat (first | refine blk_drewN ?_ _ | refine blk_drew ?_ | refine blk_alloc ?_ _)); exact BK154.out) hg (Kd.R_ne HO_171004.out BK154.out (by decide)))
                have n2_ := Aside0.mk (blk_grown (g := gb169) (o := .cells #[.int .i64 t163, .int .i64 t164, .int .i64 t165] 41 (0, 0)) (by (with_reducible repeat (first | refine blk_drewN ?_ _ | refine blk_drew ?_ | refine blk_alloc ?_ _)); exact BK169.out) hg (Kd.R_ne HO_171004.out BK169.out (by decide)))
                have n3_ := Aside0.mk (blk_grown (g := gb170) (o := .cells #[.int .i64 t163, .int .i64 t164, .int .i64 t165, u171003, u171004] 31 (0, 0)) (by (with_reducible repeat (first | refine blk_drewN ?_ _ | refine blk_drew ?_ | refine blk_alloc ?_ _)); exact BK170.out) hg (Kd.R_ne HO_171004.out BK170.out (by decide)))
                have n4_ := Aside0.mk (IsS48.grown (show IsS48 w _ gb155 t203 t204 t205 from by repeat (first | (with_reducible first | exact HI155.out | apply IsS48.alloc | apply IsS48.drewN | apply IsS48.drew | apply IsS48.set_0 | apply IsS48.set_1 | apply IsS48.set_2 | refine IsS48.far ?_ NB155_154.out _ | refine IsS48.far ?_ NB155_169.out _ | refine IsS48.far ?_ NB155_170.out _) | exact HI155.out)) hg (IsS48.own_ne HI155.out HO_171004.out (by decide)))
                have n5_ := Aside0.mk (hb)
                have n6_ := Aside0.mk (ho)
                clear HO_171003
                clear BK154
                clear BK169
                clear BK170
                clear HI155
                clear HB
                clear HO_171004
                have HO_171003 := n0_
                have BK154 := n1_
                have BK169 := n2_
                have BK170 := n3_
                have HI155 := n4_
                have HB := n5_
                have HO208 := n6_
                clear n0_ n1_ n2_ n3_ n4_ n5_ n6_
                clear ho hb hg hat
                obtain ⟨Ao45, co45, eo45⟩ := Kd.R_slice HO208.out
                (first | subst eo45 | (injection eo45 with f1_ f2_ f3_; have f4_ := f1_.symm; have f5_ := f3_.symm; clear f1_ f2_ f3_; subst f4_; subst f5_))
                refine hK.out _ _ ⟨(blk_cell BK170.out 0).trans rfl, (blk_cell BK170.out 1).trans rfl, (blk_cell BK170.out 2).trans rfl, (blk_cell BK170.out 3).trans rfl, (blk_cell BK170.out 4).trans rfl⟩ (fun hHeld => ?_)
                clear hK K
                refine norm_ (a' := ?_) ?_ ?_
                rotate_left
                · show Act.put _ (some 49) _ = _
                  simp only [Act.put, List.setIfInBounds_toArray, List.set_cons_zero, List.set_cons_succ, i64_w, i32_w]
                  rfl
                refine pure_ (i := 6) (N := some 50) (v := ?_) (a' := ?_) #[true, true, true, true, true, true, true, false] rfl rfl (any_of HT_.out (by kernel_rfl)) (fun _ _ _ h => h) (Or.inl ⟨by rfl, ?_⟩) ?_ ?_
                rotate_left
                · intro w'
                  go_simp
                  with_reducible rfl
                rotate_left
                · simp only [Act.put, List.setIfInBounds_toArray, List.set_cons_zero, List.set_cons_succ, i64_w, i32_w]
                  rfl
                refine last_ (i := 7) (N := none) #[true, true, true, true, true, true, true, true] rfl rfl (one_of HT_.out (by kernel_rfl)) (by decide) (fun K hK => ?_)
                have hs46 : w44.cell? ⟨gb170, 4, none⟩ = some (u171004) := (blk_cell BK170.out 4).trans rfl
                have hfs46 := blk_frozen BK170.out 4
                have hns46_0 := NB154_170.out
                have hns46_1 := NB169_170.out
                have hms46_0 := NB170_154.out
                have hms46_1 := NB170_169.out
                refine skip_ (w1 := ?_) (by rfl) rfl ?_ ?_
                rotate_left
                · go_simp
                  rfl
                refine hK.out _ _ ?_
                clear hK K
                refine done_ (done_of HT_.out (by kernel_rfl)) ?_
                try go_wp2_with (first | ((with_reducible refine gate_dst (N := 42) rfl ?_); (try (refine gate_guard (by rfl) ?_; dsimp only)); refine Kd.R_lit Kd.string _ 9 ?hg (N := 42) ?hd (xs := ([(⟨#[101, 110, 100, 10]⟩ : ByteArray), (⟨#[102, 97, 99, 101, 32]⟩ : ByteArray)] : List ByteArray)) (inner := [.string (⟨#[101, 110, 100, 10]⟩ : ByteArray), .string (⟨#[102, 97, 99, 101, 32]⟩ : ByteArray)]) (ok := fun _ => True) (okp := fun _ => True) ?hr ?hp (fun _ hk => hk) trivial (Below.refl _ _) (Nat.le_refl _) (by simp) ?_; (case hd => rfl); (case hg => rfl); (case hr => first | (go_simp; done) | (go_simp; rfl) | (go_simp; simp only [zw_u32, zw_u8, zw_u32', zw_u8', IntKind.wrap_u32, IntKind.wrap_u8]; done) | (go_simp; simp only [zw_u32, zw_u8, zw_u32', zw_u8', IntKind.wrap_u32, IntKind.wrap_u8]; rfl)); (case hp => exact (Reps.one (show Kd.M Kd.string _ _ _ (⟨#[101, 110, 100, 10]⟩ : ByteArray) [.string (⟨#[101, 110, 100, 10]⟩ : ByteArray)] from rfl) (Reps.one (show Kd.M Kd.string _ _ _ (⟨#[102, 97, 99, 101, 32]⟩ : ByteArray) [.string (⟨#[102, 97, 99, 101, 32]⟩ : ByteArray)] from rfl) (Reps.none _ _)))); intro v210 w47 ho48 hb hg_ hnew_; clear hg_ hnew_; (first | rw [← Ny209.out] at ho48 | (simp only [Int.reduceToNat] at ho48; rw [← Ny209.out] at ho48)); have n0_ := Aside0.mk (Kd.R_below (by (with_reducible repeat (first | apply Kd.R_alloc | apply Kd.R_drewN | apply Kd.R_drew)); exact (Kd.R_mono (Kd.R_far (p := ⟨gb170, 4, none⟩) (Kd.R_types HO_171003.out BK170.out (by decide)) (fun _ hk => hk.2) (.slice Ao45 y206.length co45)) (fun _ h_ => h_.1))) hb); have n1_ := Aside0.mk (Kd.R_below (by (with_reducible repeat (first | apply Kd.R_alloc | apply Kd.R_drewN | apply Kd.R_drew)); exact (Kd.R_mono (Kd.R_far (p := ⟨gb170, 4, none⟩) (Kd.R_types HO208.out BK170.out (by decide)) (fun _ hk => hk.2) (.slice Ao45 y206.length co45)) (fun _ h_ => h_.1))) hb); have n2_ := Aside0.mk (Kd.R_lower ho48 (below_size (by repeat (first | (with_reducible first | exact HB.out | apply below_alloc | apply pw_below_drewN | apply below_drew1 | refine below_set ?_ (IsS48.ge HI155.out) | refine below_set ?_ GE154.out | refine below_set ?_ GE169.out | refine below_set ?_ GE170.out) | exact HB.out)))); have n3_ := Aside0.mk (blk_below (g := gb154) (o := .cells #[.int .i64 0, .int .i64 0, .int .i64 0, .slice none 0 0, .slice none 0 0] 31 (0, 0)) (by (with_reducible repeat (first | refine blk_drewN ?_ _ | refine blk_drew ?_ | refine blk_alloc ?_ _)); refine blk_far ?_ NB154_170.out _; (with_reducible repeat (first | refine blk_drewN ?_ _ | refine blk_drew ?_ | refine blk_alloc ?_ _)); exact BK154.out) hb); have n4_ := Aside0.mk (blk_below (g := gb169) (o := .cells #[.int .i64 t163, .int .i64 t164, .int .i64 t165] 41 (0, 0)) (by (with_reducible repeat (first | refine blk_drewN ?_ _ | refine blk_drew ?_ | refine blk_alloc ?_ _)); refine blk_far ?_ NB169_170.out _; (with_reducible repeat (first | refine blk_drewN ?_ _ | refine blk_drew ?_ | refine blk_alloc ?_ _)); exact BK169.out) hb); have n5_ := Aside0.mk (blk_below (g := gb170) (o := .cells #[.int .i64 t163, .int .i64 t164, .int .i64 t165, u171003, .slice Ao45 y206.length co45] 31 (0, 0)) (by (with_reducible repeat (first | refine blk_drewN ?_ _ | refine blk_drew ?_ | refine blk_alloc ?_ _)); refine blk_put (cs := #[.int .i64 t163, .int .i64 t164, .int .i64 t165, u171003, u171004]) ?_ 4 _ rfl; (with_reducible repeat (first | refine blk_drewN ?_ _ | refine blk_drew ?_ | refine blk_alloc ?_ _)); exact BK170.out) hb); have n6_ := Aside0.mk (IsS48.below (show IsS48 w (w44.setCell ⟨gb170, 4, none⟩ (.slice Ao45 y206.length co45)) gb155 t203 t204 t205 from by repeat (first | (with_reducible first | exact HI155.out | apply IsS48.alloc | apply IsS48.drewN | apply IsS48.drew | apply IsS48.set_0 | apply IsS48.set_1 | apply IsS48.set_2 | refine IsS48.far ?_ NB155_154.out _ | refine IsS48.far ?_ NB155_169.out _ | refine IsS48.far ?_ NB155_170.out _) | exact HI155.out)) hb); have n7_ := Aside0.mk (below_step (by repeat (first | (with_reducible first | exact HB.out | apply below_alloc | apply pw_below_drewN | apply below_drew1 | refine below_set ?_ (IsS48.ge HI155.out) | refine below_set ?_ GE154.out | refine below_set ?_ GE169.out | refine below_set ?_ GE170.out) | exact HB.out)) hb); clear HO_171003; clear HO208; clear BK154; clear BK169; clear BK170; clear HI155; clear HB; have HO_171003 := n0_; have HO208 := n1_; have HO211 := n2_; have BK154 := n3_; have BK169 := n4_; have BK170 := n5_; have HI155 := n6_; have HB := n7_; clear n0_ n1_ n2_ n3_ n4_ n5_ n6_ n7_; clear hb ho48; obtain ⟨Ao49, co49, eo49⟩ := Kd.R_slice HO211.out; subst eo49) | ((with_reducible refine gate_callee (f := 20) rfl ?_); refine goesL_ (some 43) rfl rfl Try.func20 (by kernel_rfl) rfl #[.pointer (some ⟨gb155, 0, none⟩), .slice Ao49 y209.length co49] rfl (by (try simp only [List.map_toArray, List.map_cons, List.map_nil]); first | done | rfl | (simp only [List.length_drop, List.length_take]; rfl)) ?_; (with_reducible refine (file_reader_word.calls k2 gb155 t203 t204 t205 _ _ y209 t212 t213 t214 t215 w _ ?side1 ?side2 ?side3 ?side4 ?side5 A41.out).mono ?_); (case side1 => repeat (first | (with_reducible first | exact HI155.out | apply IsS48.alloc | apply IsS48.drewN | apply IsS48.drew | apply IsS48.set_0 | apply IsS48.set_1 | apply IsS48.set_2 | refine IsS48.far ?_ NB155_154.out _ | refine IsS48.far ?_ NB155_169.out _ | refine IsS48.far ?_ NB155_170.out _) | exact HI155.out)); (case side2 => repeat (first | (with_reducible first | exact HB.out | apply below_alloc | apply pw_below_drewN | apply below_drew1 | refine below_set ?_ (IsS48.ge HI155.out) | refine below_set ?_ GE154.out | refine below_set ?_ GE169.out | refine below_set ?_ GE170.out) | exact HB.out)); (case side3 => repeat (first | exact (Kd.R_reads' HO211.out).2.2 | (with_reducible refine Kd.C_alloc ?_ _) | (with_reducible refine Kd.C_drewN ?_ _) | (with_reducible refine Kd.C_drew ?_))); (case side4 => exact (Kd.R_reads' HO211.out).2.1); (case side5 => exact far_slice (IsS48.own_ne HI155.out HO211.out (by decide))); rintro e w50 ⟨rfl, hi, hb, hk⟩; refine ⟨_, rfl, ?_⟩; have n0_ := Aside0.mk (Kd.R_mono (Kd.R_keep (IsS48.apart (show IsS48 w _ gb155 t203 t204 t205 from by repeat (first | (with_reducible first | exact HI155.out | apply IsS48.alloc | apply IsS48.drewN | apply IsS48.drew | apply IsS48.set_0 | apply IsS48.set_1 | apply IsS48.set_2 | refine IsS48.far ?_ NB155_154.out _ | refine IsS48.far ?_ NB155_169.out _ | refine IsS48.far ?_ NB155_170.out _) | exact HI155.out)) (by (with_reducible repeat (first | apply Kd.R_alloc | apply Kd.R_drewN | apply Kd.R_drew)); exact HO_171003.out) (by decide)) hk (fun _ h => h.2)) (fun _ h => h.1)); have n1_ := Aside0.mk (KeepBut.blk hk (g' := gb154) (o := .cells #[.int .i64 0, .int .i64 0, .int .i64 0, .slice none 0 0, .slice none 0 0] 31 (0, 0)) (by (with_reducible repeat (first | refine blk_drewN ?_ _ | refine blk_drew ?_ | refine blk_alloc ?_ _)); exact BK154.out) NB154_155.out (by simp)); have n2_ := Aside0.mk (KeepBut.blk hk (g' := gb169) (o := .cells #[.int .i64 t163, .int .i64 t164, .int .i64 t165] 41 (0, 0)) (by (with_reducible repeat (first | refine blk_drewN ?_ _ | refine blk_drew ?_ | refine blk_alloc ?_ _)); exact BK169.out) NB169_155.out (by simp)); have n3_ := Aside0.mk (KeepBut.blk hk (g' := gb170) (o := .cells #[.int .i64 t163, .int .i64 t164, .int .i64 t165, u171003, .slice Ao45 y206.length co45] 31 (0, 0)) (by (with_reducible repeat (first | refine blk_drewN ?_ _ | refine blk_drew ?_ | refine blk_alloc ?_ _)); exact BK170.out) NB170_155.out (by simp)); have n4_ := Aside0.mk (Kd.R_mono (Kd.R_keep (IsS48.apart (show IsS48 w _ gb155 t203 t204 t205 from by repeat (first | (with_reducible first | exact HI155.out | apply IsS48.alloc | apply IsS48.drewN | apply IsS48.drew | apply IsS48.set_0 | apply IsS48.set_1 | apply IsS48.set_2 | refine IsS48.far ?_ NB155_154.out _ | refine IsS48.far ?_ NB155_169.out _ | refine IsS48.far ?_ NB155_170.out _) | exact HI155.out)) (by (with_reducible repeat (first | apply Kd.R_alloc | apply Kd.R_drewN | apply Kd.R_drew)); exact HO208.out) (by decide)) hk (fun _ h => h.2)) (fun _ h => h.1)); have n5_ := Aside0.mk (Kd.R_mono (Kd.R_keep (IsS48.apart (show IsS48 w _ gb155 t203 t204 t205 from by repeat (first | (with_reducible first | exact HI155.out | apply IsS48.alloc | apply IsS48.drewN | apply IsS48.drew | apply IsS48.set_0 | apply IsS48.set_1 | apply IsS48.set_2 | refine IsS48.far ?_ NB155_154.out _ | refine IsS48.far ?_ NB155_169.out _ | refine IsS48.far ?_ NB155_170.out _) | exact HI155.out)) (by (with_reducible repeat (first | apply Kd.R_alloc | apply Kd.R_drewN | apply Kd.R_drew)); exact HO211.out) (by decide)) hk (fun _ h => h.2)) (fun _ h => h.1)); have n6_ := Aside0.mk (hb); have n7_ := Aside0.mk (hi); clear HO_171003; clear BK154; clear BK169; clear BK170; clear HO208; clear HO211; clear HB; clear HI155; have HO_171003 := n0_; have BK154 := n1_; have BK169 := n2_; have BK170 := n3_; have HO208 := n4_; have HO211 := n5_; have HB := n6_; have HI155 := n7_; clear n0_ n1_ n2_ n3_ n4_ n5_ n6_ n7_; (try clear hb); (try clear hb2); (try clear hk); (try clear hi)))
                go_roundg k2
                case measure => have := HK1.out; have := HK2.out; omega
                case rel => exact ⟨(t212), (t213), (t214), (t215), (y206), (.slice Ao45 y206.length co45), (by first | rfl | (simp; done) | (simp [*]; done)), H', ⟨by have := HK1.out; have := HK2.out; omega⟩, ⟨by (with_reducible repeat (first | apply Kd.R_alloc | apply Kd.R_drewN | apply Kd.R_drew)); first | exact HO_171003.out | exact Kd.R_mono HO_171003.out (fun k_ hk_ => by simp only [ownBlock_norm] at hk_ ⊢; exact hk_)⟩, ⟨by (with_reducible repeat (first | apply Kd.R_alloc | apply Kd.R_drewN | apply Kd.R_drew)); first | exact HO208.out | exact Kd.R_mono HO208.out (fun k_ hk_ => by simp only [ownBlock_norm] at hk_ ⊢; exact hk_)⟩, ⟨by (with_reducible repeat (first | refine blk_drewN ?_ _ | refine blk_drew ?_ | refine blk_alloc ?_ _)); exact BK154.out⟩, ⟨by (with_reducible repeat (first | refine blk_drewN ?_ _ | refine blk_drew ?_ | refine blk_alloc ?_ _)); exact BK169.out⟩, ⟨by (with_reducible repeat (first | refine blk_drewN ?_ _ | refine blk_drew ?_ | refine blk_alloc ?_ _)); exact BK170.out⟩, ⟨by repeat (first | (with_reducible first | exact HI155.out | apply IsS48.alloc | apply IsS48.drewN | apply IsS48.drew | apply IsS48.set_0 | apply IsS48.set_1 | apply IsS48.set_2 | refine IsS48.far ?_ NB155_154.out _ | refine IsS48.far ?_ NB155_169.out _ | refine IsS48.far ?_ NB155_170.out _) | exact HI155.out)⟩, ⟨by repeat (first | (with_reducible first | exact HB.out | apply below_alloc | apply pw_below_drewN | apply below_drew1 | refine below_set ?_ (IsS48.ge HI155.out) | refine below_set ?_ GE154.out | refine below_set ?_ GE169.out | refine below_set ?_ GE170.out) | exact HB.out)⟩⟩
              · rw [if_neg c40] at H
                exact absurd H (by simp)
            · rw [if_neg c38] at H
              have c38b0 : (x8_2 == 1) = false := beq_eq_false_iff_ne.mpr c38
              have c38b1 : (x8_2 != 1) = true := bne_iff_ne.mpr c38
              by_cases c51 : x156002_2 = true
              · subst c51
                rw [if_pos rfl] at H
                by_cases c52 : x156001_2 = (a0.size : Int)
                · rw [if_pos c52] at H
                  have c52b0 : (x156001_2 == (a0.size : Int)) = true := beq_iff_eq.mpr c52
                  have c52b1 : (x156001_2 != (a0.size : Int)) = false := bne_eq_false_iff_eq.mpr c52
                  clear c52
                  simp only [Option.some.injEq, Prod.mk.injEq] at H
                  obtain ⟨rfl, rfl, rfl, rfl, rfl, rfl, rfl⟩ := H
                  obtain ⟨HGz53, hgz53⟩ := HI155.out
                  have hcz53_0 := cellS48_0 HGz53
                  have hcz53_1 := cellS48_1 HGz53
                  have hcz53_2 := cellS48_2 HGz53
                  have hfz53_0 := blk_frozen HGz53 0
                  have hfz53_1 := blk_frozen HGz53 1
                  have hfz53_2 := blk_frozen HGz53 2
                  clear HGz53 hgz53
                  have hnb54 := NB170_154.out
                  have hnc54 := NB154_170.out
                  have hnb55 := NB170_169.out
                  have hnc55 := NB169_170.out
                  have hnb56 := NB170_155.out
                  have hnc56 := NB155_170.out
                  have hcz57_0 : wr.cell? ⟨gb170, 0, none⟩ = some (.int .i64 t163) := (blk_cell BK170.out 0).trans rfl
                  have hcz57_1 : wr.cell? ⟨gb170, 1, none⟩ = some (.int .i64 t164) := (blk_cell BK170.out 1).trans rfl
                  have hcz57_2 : wr.cell? ⟨gb170, 2, none⟩ = some (.int .i64 t165) := (blk_cell BK170.out 2).trans rfl
                  have hcz57_3 : wr.cell? ⟨gb170, 3, none⟩ = some (u171003) := (blk_cell BK170.out 3).trans rfl
                  have hcz57_4 : wr.cell? ⟨gb170, 4, none⟩ = some (u171004) := (blk_cell BK170.out 4).trans rfl
                  have hfz57_0 := blk_frozen BK170.out 0
                  have hfz57_1 := blk_frozen BK170.out 1
                  have hfz57_2 := blk_frozen BK170.out 2
                  have hfz57_3 := blk_frozen BK170.out 3
                  have hfz57_4 := blk_frozen BK170.out 4
                  have hnb58 := NB154_169.out
                  have hnc58 := NB169_154.out
                  have hnb59 := NB154_155.out
                  have hnc59 := NB155_154.out
                  have hcz60_0 : wr.cell? ⟨gb154, 0, none⟩ = some (.int .i64 0) := (blk_cell BK154.out 0).trans rfl
                  have hcz60_1 : wr.cell? ⟨gb154, 1, none⟩ = some (.int .i64 0) := (blk_cell BK154.out 1).trans rfl
                  have hcz60_2 : wr.cell? ⟨gb154, 2, none⟩ = some (.int .i64 0) := (blk_cell BK154.out 2).trans rfl
                  have hcz60_3 : wr.cell? ⟨gb154, 3, none⟩ = some (.slice none 0 0) := (blk_cell BK154.out 3).trans rfl
                  have hcz60_4 : wr.cell? ⟨gb154, 4, none⟩ = some (.slice none 0 0) := (blk_cell BK154.out 4).trans rfl
                  have hfz60_0 := blk_frozen BK154.out 0
                  have hfz60_1 := blk_frozen BK154.out 1
                  have hfz60_2 := blk_frozen BK154.out 2
                  have hfz60_3 := blk_frozen BK154.out 3
                  have hfz60_4 := blk_frozen BK154.out 4
                  obtain ⟨Ao61, co61, eo61⟩ := Kd.R_slice HO_171003.out
                  subst eo61
                  obtain ⟨Ao62, co62, eo62⟩ := Kd.R_slice HO_171004.out
                  subst eo62
                  go_wp2
                  refine bodyPost_ret (results_ctt rfl _ _ gb154 31 #[.int .i64 t163, .int .i64 t164, .int .i64 t165, .slice Ao61 x171003_1.length co61, .slice Ao62 x171004_2.length co62] (0, 0) _ rfl (by (with_reducible repeat (first | refine blk_drewN ?_ _ | refine blk_drew ?_ | refine blk_alloc ?_ _)); refine blk_put (cs := #[.int .i64 t163, .int .i64 t164, .int .i64 t165, .slice Ao61 x171003_1.length co61, .slice none 0 0]) ?_ 4 _ rfl; (with_reducible repeat (first | refine blk_drewN ?_ _ | refine blk_drew ?_ | refine blk_alloc ?_ _)); refine blk_put (cs := #[.int .i64 t163, .int .i64 t164, .int .i64 t165, .slice none 0 0, .slice none 0 0]) ?_ 3 _ rfl; (with_reducible repeat (first | refine blk_drewN ?_ _ | refine blk_drew ?_ | refine blk_alloc ?_ _)); refine blk_put (cs := #[.int .i64 t163, .int .i64 t164, .int .i64 0, .slice none 0 0, .slice none 0 0]) ?_ 2 _ rfl; (with_reducible repeat (first | refine blk_drewN ?_ _ | refine blk_drew ?_ | refine blk_alloc ?_ _)); refine blk_put (cs := #[.int .i64 t163, .int .i64 0, .int .i64 0, .slice none 0 0, .slice none 0 0]) ?_ 1 _ rfl; (with_reducible repeat (first | refine blk_drewN ?_ _ | refine blk_drew ?_ | refine blk_alloc ?_ _)); refine blk_put (cs := #[.int .i64 0, .int .i64 0, .int .i64 0, .slice none 0 0, .slice none 0 0]) ?_ 0 _ rfl; (with_reducible repeat (first | refine blk_drewN ?_ _ | refine blk_drew ?_ | refine blk_alloc ?_ _)); exact BK154.out) Try.underlying31 rfl (by kernel_rfl)) rfl ?_
                  exact ⟨_, _, by first | rfl | (simp [errW_none, errW_some] <;> rfl) | (simp [*, errW_none, errW_some] <;> rfl), by (with_reducible repeat (first | apply Kd.R_alloc | apply Kd.R_drewN | apply Kd.R_drew)); exact Kd.R_mono (Kd.R_far (p := ⟨gb154, 4, none⟩) (Kd.R_far (p := ⟨gb154, 3, none⟩) (Kd.R_far (p := ⟨gb154, 2, none⟩) (Kd.R_far (p := ⟨gb154, 1, none⟩) (Kd.R_far (p := ⟨gb154, 0, none⟩) (Kd.R_types HO_171003.out BK154.out (by decide)) (fun _ hk => hk.2) (.int .i64 t163)) (fun _ hk => hk.2) (.int .i64 t164)) (fun _ hk => hk.2) (.int .i64 t165)) (fun _ hk => hk.2) (.slice Ao61 x171003_1.length co61)) (fun _ hk => hk.2) (.slice Ao62 x171004_2.length co62)) (fun _ hk => trivial), by (with_reducible repeat (first | apply Kd.R_alloc | apply Kd.R_drewN | apply Kd.R_drew)); exact Kd.R_mono (Kd.R_far (p := ⟨gb154, 4, none⟩) (Kd.R_far (p := ⟨gb154, 3, none⟩) (Kd.R_far (p := ⟨gb154, 2, none⟩) (Kd.R_far (p := ⟨gb154, 1, none⟩) (Kd.R_far (p := ⟨gb154, 0, none⟩) (Kd.R_types HO_171004.out BK154.out (by decide)) (fun _ hk => hk.2) (.int .i64 t163)) (fun _ hk => hk.2) (.int .i64 t164)) (fun _ hk => hk.2) (.int .i64 t165)) (fun _ hk => hk.2) (.slice Ao61 x171003_1.length co61)) (fun _ hk => hk.2) (.slice Ao62 x171004_2.length co62)) (fun _ hk => trivial), by repeat (first | (with_reducible first | exact HB.out | apply below_alloc | apply pw_below_drewN | apply below_drew1 | refine below_set ?_ (IsS48.ge HI155.out) | refine below_set ?_ GE154.out | refine below_set ?_ GE169.out | refine below_set ?_ GE170.out) | exact HB.out)⟩
                · rw [if_neg c52] at H
                  have c52b0 : (x156001_2 == (a0.size : Int)) = false := beq_eq_false_iff_ne.mpr c52
                  have c52b1 : (x156001_2 != (a0.size : Int)) = true := bne_iff_ne.mpr c52
                  simp only [Option.some.injEq, Prod.mk.injEq] at H
                  obtain ⟨rfl, rfl, rfl, rfl, rfl, rfl, rfl⟩ := H
                  obtain ⟨HGz63, hgz63⟩ := HI155.out
                  have hcz63_0 := cellS48_0 HGz63
                  have hcz63_1 := cellS48_1 HGz63
                  have hcz63_2 := cellS48_2 HGz63
                  have hfz63_0 := blk_frozen HGz63 0
                  have hfz63_1 := blk_frozen HGz63 1
                  have hfz63_2 := blk_frozen HGz63 2
                  clear HGz63 hgz63
                  try go_wp2
                  have n0_ := Aside0.mk (Kd.R_drew HO_171003.out)
                  have n1_ := Aside0.mk (Kd.R_drew HO_171004.out)
                  have n2_ := Aside0.mk (blk_drew BK154.out)
                  have n3_ := Aside0.mk (blk_drew BK169.out)
                  have n4_ := Aside0.mk (blk_drew BK170.out)
                  have n5_ := Aside0.mk (IsS48.drew HI155.out)
                  have n6_ := Aside0.mk (below_drew1 HB.out)
                  clear HO_171003
                  clear HO_171004
                  clear BK154
                  clear BK169
                  clear BK170
                  clear HI155
                  clear HB
                  have HO_171003 := n0_
                  have HO_171004 := n1_
                  have BK154 := n2_
                  have BK169 := n3_
                  have BK170 := n4_
                  have HI155 := n5_
                  have HB := n6_
                  clear n0_ n1_ n2_ n3_ n4_ n5_ n6_
                  refine start_ (n := 8) (S := fun w' => w'.cell? ⟨gb155, 0, none⟩ = some (.string x156000_2) ∧ w'.cell? ⟨gb155, 1, none⟩ = some (.int .i64 x156001_2) ∧ w'.cell? ⟨gb155, 2, none⟩ = some (.bool true)) (ds := []) #[false, false, false, false, false, false, false, false] (by kernel_rfl) rfl rfl ⟨(blk_cell (Aside0.mk HI155.out.1).out 0).trans rfl, (blk_cell (Aside0.mk HI155.out.1).out 1).trans rfl, (blk_cell (Aside0.mk HI155.out.1).out 2).trans rfl⟩ (fun hHeld => ?_); refine with_tabW file_Parse.tab14 file_Parse.bits14 (fun HT_ HW_ => ?_)
                  generalize wr.drew = w64 at HO_171003 HO_171004 BK154 BK169 BK170 HI155 HB hHeld ⊢
                  refine pure_ (i := 0) (N := some 65) (v := ?_) (a' := ?_) #[true, false, false, false, false, false, false, false] rfl rfl (any_of HT_.out (by kernel_rfl)) (fun _ _ _ h => h) (Or.inl ⟨by rfl, ?_⟩) ?_ ?_
                  rotate_left
                  · intro w'
                    go_simp
                    with_reducible rfl
                  rotate_left
                  · simp only [Act.put, List.setIfInBounds_toArray, List.set_cons_zero, List.set_cons_succ, i64_w, i32_w]
                    rfl
                  refine pure_ (i := 1) (N := some 66) (v := ?_) (a' := ?_) #[true, true, false, false, false, false, false, false] rfl rfl (any_of HT_.out (by kernel_rfl)) (fun _ _ _ h => h) (Or.inl ⟨by rfl, ?_⟩) ?_ ?_
                  rotate_left
                  · intro w'
                    go_simp
                    with_reducible rfl
                  rotate_left
                  · simp only [Act.put, List.setIfInBounds_toArray, List.set_cons_zero, List.set_cons_succ, i64_w, i32_w]
                    rfl
                  refine pure_ (i := 2) (N := some 67) (v := ?_) (a' := ?_) #[true, true, true, false, false, false, false, false] rfl rfl (any_of HT_.out (by kernel_rfl)) (fun _ _ _ h => h) (Or.inl ⟨by rfl, ?_⟩) ?_ ?_
                  rotate_left
                  · intro w'
                    go_simp
                    with_reducible rfl
                  rotate_left
                  · simp only [Act.put, List.setIfInBounds_toArray, List.set_cons_zero, List.set_cons_succ, i64_w, i32_w]
                    rfl
                  refine pure_ (i := 3) (N := some 68) (v := ?_) (a' := ?_) #[true, true, true, true, false, false, false, false] rfl rfl (any_of HT_.out (by kernel_rfl)) (fun _ _ _ h => h) (Or.inl ⟨by rfl, ?_⟩) ?_ ?_
                  rotate_left
                  · intro w'
                    go_simp
                    with_reducible rfl
                  rotate_left
                  · simp only [Act.put, List.setIfInBounds_toArray, List.set_cons_zero, List.set_cons_succ, i64_w, i32_w]
                    rfl
                  refine take_ (i := 4) (N := some 69) (v := ?_) (a' := ?_) #[true, true, true, true, true, false, false, false] rfl rfl (take_ofW HT_.out HW_.out (by kernel_rfl)) (fun _ _ _ h => h) (Or.inl ⟨by rfl, ?_⟩) hHeld ?_ ?_
                  rotate_left
                  · rintro w' ⟨s0, s1, s2⟩
                    go_simp
                    with_reducible rfl
                  rotate_left
                  · simp only [Act.put, List.setIfInBounds_toArray, List.set_cons_zero, List.set_cons_succ, i64_w, i32_w]
                    rfl
                  refine one_ (i := 5) (N := none) #[true, true, true, true, true, true, false, false] rfl rfl (one_of HT_.out (by kernel_rfl)) (by decide) (fun K hK => ?_)
                  have hs65 : w64.cell? ⟨gb154, 0, none⟩ = some (.int .i64 0) := (blk_cell BK154.out 0).trans rfl
                  have hfs65 := blk_frozen BK154.out 0
                  have hns65_1 := NB169_154.out
                  have hns65_2 := NB170_154.out
                  have hms65_1 := NB154_169.out
                  have hms65_2 := NB154_170.out
                  have hs66 : w64.cell? ⟨gb154, 1, none⟩ = some (.int .i64 0) := (blk_cell BK154.out 1).trans rfl
                  have hfs66 := blk_frozen BK154.out 1
                  have hns66_1 := NB169_154.out
                  have hns66_2 := NB170_154.out
                  have hms66_1 := NB154_169.out
                  have hms66_2 := NB154_170.out
                  have hs67 : w64.cell? ⟨gb154, 2, none⟩ = some (.int .i64 0) := (blk_cell BK154.out 2).trans rfl
                  have hfs67 := blk_frozen BK154.out 2
                  have hns67_1 := NB169_154.out
                  have hns67_2 := NB170_154.out
                  have hms67_1 := NB154_169.out
                  have hms67_2 := NB154_170.out
                  have hs68 : w64.cell? ⟨gb154, 3, none⟩ = some (.slice none 0 0) := (blk_cell BK154.out 3).trans rfl
                  have hfs68 := blk_frozen BK154.out 3
                  have hns68_1 := NB169_154.out
                  have hns68_2 := NB170_154.out
                  have hms68_1 := NB154_169.out
                  have hms68_2 := NB154_170.out
                  have hs69 : w64.cell? ⟨gb154, 4, none⟩ = some (.slice none 0 0) := (blk_cell BK154.out 4).trans rfl
                  have hfs69 := blk_frozen BK154.out 4
                  have hns69_1 := NB169_154.out
                  have hns69_2 := NB170_154.out
                  have hms69_1 := NB154_169.out
                  have hms69_2 := NB154_170.out
                  refine skip_ (w1 := ?_) (by rfl) rfl ?_ ?_
                  rotate_left
                  · go_simp
                    rfl
                  refine hK.out _ _ ⟨((cell_far (p := ⟨gb154, _, none⟩) NB155_154.out _).trans (((cell_far (p := ⟨gb154, _, none⟩) NB155_154.out _).trans (((cell_far (p := ⟨gb154, _, none⟩) NB155_154.out _).trans (((cell_far (p := ⟨gb154, _, none⟩) NB155_154.out _).trans (((cell_far (p := ⟨gb154, _, none⟩) NB155_154.out _).trans (hHeld.1)))))))))), ((cell_far (p := ⟨gb154, _, none⟩) NB155_154.out _).trans (((cell_far (p := ⟨gb154, _, none⟩) NB155_154.out _).trans (((cell_far (p := ⟨gb154, _, none⟩) NB155_154.out _).trans (((cell_far (p := ⟨gb154, _, none⟩) NB155_154.out _).trans (((cell_far (p := ⟨gb154, _, none⟩) NB155_154.out _).trans (hHeld.2.1)))))))))), ((cell_far (p := ⟨gb154, _, none⟩) NB155_154.out _).trans (((cell_far (p := ⟨gb154, _, none⟩) NB155_154.out _).trans (((cell_far (p := ⟨gb154, _, none⟩) NB155_154.out _).trans (((cell_far (p := ⟨gb154, _, none⟩) NB155_154.out _).trans (((cell_far (p := ⟨gb154, _, none⟩) NB155_154.out _).trans (hHeld.2.2))))))))))⟩ (fun hHeld => ?_)
                  clear hK K
                  refine pure_ (i := 6) (N := some 3) (v := ?_) (a' := ?_) #[true, true, true, true, true, true, true, false] rfl rfl (any_of HT_.out (by kernel_rfl)) (fun _ _ _ h => h) (Or.inl ⟨by rfl, ?_⟩) ?_ ?_
                  rotate_left
                  · intro w'
                    go_simp
                    with_reducible rfl
                  rotate_left
                  · simp only [Act.put, List.setIfInBounds_toArray, List.set_cons_zero, List.set_cons_succ, i64_w, i32_w]
                    rfl
                  refine pure_ (i := 7) (N := some 4) (v := ?_) (a' := ?_) #[true, true, true, true, true, true, true, true] rfl rfl (any_of HT_.out (by kernel_rfl)) (fun _ _ _ h => h) (Or.inl ⟨by rfl, ?_⟩) ?_ ?_
                  rotate_left
                  · intro w'
                    go_simp
                    with_reducible rfl
                  rotate_left
                  · simp only [Act.put, List.setIfInBounds_toArray, List.set_cons_zero, List.set_cons_succ, i64_w, i32_w]
                    rfl
                  refine done_ (done_of HT_.out (by kernel_rfl)) ?_
                  try go_wp2
                  refine bodyPost_ret (results_ctt rfl _ _ gb154 31 #[.int .i64 0, .int .i64 0, .int .i64 0, .slice none 0 0, .slice none 0 0] (0, 0) _ rfl (by (with_reducible repeat (first | refine blk_drewN ?_ _ | refine blk_drew ?_ | refine blk_alloc ?_ _)); refine blk_put (cs := #[.int .i64 0, .int .i64 0, .int .i64 0, .slice none 0 0, .slice none 0 0]) ?_ 4 _ rfl; (with_reducible repeat (first | refine blk_drewN ?_ _ | refine blk_drew ?_ | refine blk_alloc ?_ _)); refine blk_put (cs := #[.int .i64 0, .int .i64 0, .int .i64 0, .slice none 0 0, .slice none 0 0]) ?_ 3 _ rfl; (with_reducible repeat (first | refine blk_drewN ?_ _ | refine blk_drew ?_ | refine blk_alloc ?_ _)); refine blk_put (cs := #[.int .i64 0, .int .i64 0, .int .i64 0, .slice none 0 0, .slice none 0 0]) ?_ 2 _ rfl; (with_reducible repeat (first | refine blk_drewN ?_ _ | refine blk_drew ?_ | refine blk_alloc ?_ _)); refine blk_put (cs := #[.int .i64 0, .int .i64 0, .int .i64 0, .slice none 0 0, .slice none 0 0]) ?_ 1 _ rfl; (with_reducible repeat (first | refine blk_drewN ?_ _ | refine blk_drew ?_ | refine blk_alloc ?_ _)); refine blk_put (cs := #[.int .i64 0, .int .i64 0, .int .i64 0, .slice none 0 0, .slice none 0 0]) ?_ 0 _ rfl; (with_reducible repeat (first | refine blk_drewN ?_ _ | refine blk_drew ?_ | refine blk_alloc ?_ _)); exact BK154.out) Try.underlying31 rfl (by kernel_rfl)) rfl ?_
                  exact ⟨_, _, by first | rfl | (simp [errW_none, errW_some] <;> rfl) | (simp [*, errW_none, errW_some] <;> rfl), by first | exact Kd.R_nil _ _ _ _ _ | exact Kd.N_nil _ _ _ _ _ | exact Kd.V_nil _ _ _ _ _ | exact Kd.Q_nil _ _ _ _ _ | exact Kd.S_nil _ _ _ _ _, by first | exact Kd.R_nil _ _ _ _ _ | exact Kd.N_nil _ _ _ _ _ | exact Kd.V_nil _ _ _ _ _ | exact Kd.Q_nil _ _ _ _ _ | exact Kd.S_nil _ _ _ _ _, by repeat (first | (with_reducible first | exact HB.out | apply below_alloc | apply pw_below_drewN | apply below_drew1 | refine below_set ?_ (IsS48.ge HI155.out) | refine below_set ?_ GE154.out | refine below_set ?_ GE169.out | refine below_set ?_ GE170.out) | exact HB.out)⟩
              · replace c51 := Bool.eq_false_iff.mpr c51
                subst c51
                rw [if_neg (show ¬ (false = true) by decide)] at H
                simp only [Option.some.injEq, Prod.mk.injEq] at H
                obtain ⟨rfl, rfl, rfl, rfl, rfl, rfl, rfl⟩ := H
                obtain ⟨HGz70, hgz70⟩ := HI155.out
                have hcz70_0 := cellS48_0 HGz70
                have hcz70_1 := cellS48_1 HGz70
                have hcz70_2 := cellS48_2 HGz70
                have hfz70_0 := blk_frozen HGz70 0
                have hfz70_1 := blk_frozen HGz70 1
                have hfz70_2 := blk_frozen HGz70 2
                clear HGz70 hgz70
                try go_wp2
                have n0_ := Aside0.mk (Kd.R_drew HO_171003.out)
                have n1_ := Aside0.mk (Kd.R_drew HO_171004.out)
                have n2_ := Aside0.mk (blk_drew BK154.out)
                have n3_ := Aside0.mk (blk_drew BK169.out)
                have n4_ := Aside0.mk (blk_drew BK170.out)
                have n5_ := Aside0.mk (IsS48.drew HI155.out)
                have n6_ := Aside0.mk (below_drew1 HB.out)
                clear HO_171003
                clear HO_171004
                clear BK154
                clear BK169
                clear BK170
                clear HI155
                clear HB
                have HO_171003 := n0_
                have HO_171004 := n1_
                have BK154 := n2_
                have BK169 := n3_
                have BK170 := n4_
                have HI155 := n5_
                have HB := n6_
                clear n0_ n1_ n2_ n3_ n4_ n5_ n6_
                refine start_ (n := 8) (S := fun w' => w'.cell? ⟨gb155, 0, none⟩ = some (.string x156000_2) ∧ w'.cell? ⟨gb155, 1, none⟩ = some (.int .i64 x156001_2) ∧ w'.cell? ⟨gb155, 2, none⟩ = some (.bool false)) (ds := []) #[false, false, false, false, false, false, false, false] (by kernel_rfl) rfl rfl ⟨(blk_cell (Aside0.mk HI155.out.1).out 0).trans rfl, (blk_cell (Aside0.mk HI155.out.1).out 1).trans rfl, (blk_cell (Aside0.mk HI155.out.1).out 2).trans rfl⟩ (fun hHeld => ?_); refine with_tabW file_Parse.tab14 file_Parse.bits14 (fun HT_ HW_ => ?_)
                generalize wr.drew = w71 at HO_171003 HO_171004 BK154 BK169 BK170 HI155 HB hHeld ⊢
                refine pure_ (i := 0) (N := some 65) (v := ?_) (a' := ?_) #[true, false, false, false, false, false, false, false] rfl rfl (any_of HT_.out (by kernel_rfl)) (fun _ _ _ h => h) (Or.inl ⟨by rfl, ?_⟩) ?_ ?_
                rotate_left
                · intro w'
                  go_simp
                  with_reducible rfl
                rotate_left
                · simp only [Act.put, List.setIfInBounds_toArray, List.set_cons_zero, List.set_cons_succ, i64_w, i32_w]
                  rfl
                refine pure_ (i := 1) (N := some 66) (v := ?_) (a' := ?_) #[true, true, false, false, false, false, false, false] rfl rfl (any_of HT_.out (by kernel_rfl)) (fun _ _ _ h => h) (Or.inl ⟨by rfl, ?_⟩) ?_ ?_
                rotate_left
                · intro w'
                  go_simp
                  with_reducible rfl
                rotate_left
                · simp only [Act.put, List.setIfInBounds_toArray, List.set_cons_zero, List.set_cons_succ, i64_w, i32_w]
                  rfl
                refine pure_ (i := 2) (N := some 67) (v := ?_) (a' := ?_) #[true, true, true, false, false, false, false, false] rfl rfl (any_of HT_.out (by kernel_rfl)) (fun _ _ _ h => h) (Or.inl ⟨by rfl, ?_⟩) ?_ ?_
                rotate_left
                · intro w'
                  go_simp
                  with_reducible rfl
                rotate_left
                · simp only [Act.put, List.setIfInBounds_toArray, List.set_cons_zero, List.set_cons_succ, i64_w, i32_w]
                  rfl
                refine pure_ (i := 3) (N := some 68) (v := ?_) (a' := ?_) #[true, true, true, true, false, false, false, false] rfl rfl (any_of HT_.out (by kernel_rfl)) (fun _ _ _ h => h) (Or.inl ⟨by rfl, ?_⟩) ?_ ?_
                rotate_left
                · intro w'
                  go_simp
                  with_reducible rfl
                rotate_left
                · simp only [Act.put, List.setIfInBounds_toArray, List.set_cons_zero, List.set_cons_succ, i64_w, i32_w]
                  rfl
                refine take_ (i := 4) (N := some 69) (v := ?_) (a' := ?_) #[true, true, true, true, true, false, false, false] rfl rfl (take_ofW HT_.out HW_.out (by kernel_rfl)) (fun _ _ _ h => h) (Or.inl ⟨by rfl, ?_⟩) hHeld ?_ ?_
                rotate_left
                · rintro w' ⟨s0, s1, s2⟩
                  go_simp
                  with_reducible rfl
                rotate_left
                · simp only [Act.put, List.setIfInBounds_toArray, List.set_cons_zero, List.set_cons_succ, i64_w, i32_w]
                  rfl
                refine one_ (i := 5) (N := none) #[true, true, true, true, true, true, false, false] rfl rfl (one_of HT_.out (by kernel_rfl)) (by decide) (fun K hK => ?_)
                have hs72 : w71.cell? ⟨gb154, 0, none⟩ = some (.int .i64 0) := (blk_cell BK154.out 0).trans rfl
                have hfs72 := blk_frozen BK154.out 0
                have hns72_1 := NB169_154.out
                have hns72_2 := NB170_154.out
                have hms72_1 := NB154_169.out
                have hms72_2 := NB154_170.out
                have hs73 : w71.cell? ⟨gb154, 1, none⟩ = some (.int .i64 0) := (blk_cell BK154.out 1).trans rfl
                have hfs73 := blk_frozen BK154.out 1
                have hns73_1 := NB169_154.out
                have hns73_2 := NB170_154.out
                have hms73_1 := NB154_169.out
                have hms73_2 := NB154_170.out
                have hs74 : w71.cell? ⟨gb154, 2, none⟩ = some (.int .i64 0) := (blk_cell BK154.out 2).trans rfl
                have hfs74 := blk_frozen BK154.out 2
                have hns74_1 := NB169_154.out
                have hns74_2 := NB170_154.out
                have hms74_1 := NB154_169.out
                have hms74_2 := NB154_170.out
                have hs75 : w71.cell? ⟨gb154, 3, none⟩ = some (.slice none 0 0) := (blk_cell BK154.out 3).trans rfl
                have hfs75 := blk_frozen BK154.out 3
                have hns75_1 := NB169_154.out
                have hns75_2 := NB170_154.out
                have hms75_1 := NB154_169.out
                have hms75_2 := NB154_170.out
                have hs76 : w71.cell? ⟨gb154, 4, none⟩ = some (.slice none 0 0) := (blk_cell BK154.out 4).trans rfl
                have hfs76 := blk_frozen BK154.out 4
                have hns76_1 := NB169_154.out
                have hns76_2 := NB170_154.out
                have hms76_1 := NB154_169.out
                have hms76_2 := NB154_170.out
                refine skip_ (w1 := ?_) (by rfl) rfl ?_ ?_
                rotate_left
                · go_simp
                  rfl
                refine hK.out _ _ ⟨((cell_far (p := ⟨gb154, _, none⟩) NB155_154.out _).trans (((cell_far (p := ⟨gb154, _, none⟩) NB155_154.out _).trans (((cell_far (p := ⟨gb154, _, none⟩) NB155_154.out _).trans (((cell_far (p := ⟨gb154, _, none⟩) NB155_154.out _).trans (((cell_far (p := ⟨gb154, _, none⟩) NB155_154.out _).trans (hHeld.1)))))))))), ((cell_far (p := ⟨gb154, _, none⟩) NB155_154.out _).trans (((cell_far (p := ⟨gb154, _, none⟩) NB155_154.out _).trans (((cell_far (p := ⟨gb154, _, none⟩) NB155_154.out _).trans (((cell_far (p := ⟨gb154, _, none⟩) NB155_154.out _).trans (((cell_far (p := ⟨gb154, _, none⟩) NB155_154.out _).trans (hHeld.2.1)))))))))), ((cell_far (p := ⟨gb154, _, none⟩) NB155_154.out _).trans (((cell_far (p := ⟨gb154, _, none⟩) NB155_154.out _).trans (((cell_far (p := ⟨gb154, _, none⟩) NB155_154.out _).trans (((cell_far (p := ⟨gb154, _, none⟩) NB155_154.out _).trans (((cell_far (p := ⟨gb154, _, none⟩) NB155_154.out _).trans (hHeld.2.2))))))))))⟩ (fun hHeld => ?_)
                clear hK K
                refine pure_ (i := 6) (N := some 3) (v := ?_) (a' := ?_) #[true, true, true, true, true, true, true, false] rfl rfl (any_of HT_.out (by kernel_rfl)) (fun _ _ _ h => h) (Or.inl ⟨by rfl, ?_⟩) ?_ ?_
                rotate_left
                · intro w'
                  go_simp
                  with_reducible rfl
                rotate_left
                · simp only [Act.put, List.setIfInBounds_toArray, List.set_cons_zero, List.set_cons_succ, i64_w, i32_w]
                  rfl
                refine pure_ (i := 7) (N := some 4) (v := ?_) (a' := ?_) #[true, true, true, true, true, true, true, true] rfl rfl (any_of HT_.out (by kernel_rfl)) (fun _ _ _ h => h) (Or.inl ⟨by rfl, ?_⟩) ?_ ?_
                rotate_left
                · intro w'
                  go_simp
                  with_reducible rfl
                rotate_left
                · simp only [Act.put, List.setIfInBounds_toArray, List.set_cons_zero, List.set_cons_succ, i64_w, i32_w]
                  rfl
                refine done_ (done_of HT_.out (by kernel_rfl)) ?_
                try go_wp2
                refine bodyPost_ret (results_ctt rfl _ _ gb154 31 #[.int .i64 0, .int .i64 0, .int .i64 0, .slice none 0 0, .slice none 0 0] (0, 0) _ rfl (by (with_reducible repeat (first | refine blk_drewN ?_ _ | refine blk_drew ?_ | refine blk_alloc ?_ _)); refine blk_put (cs := #[.int .i64 0, .int .i64 0, .int .i64 0, .slice none 0 0, .slice none 0 0]) ?_ 4 _ rfl; (with_reducible repeat (first | refine blk_drewN ?_ _ | refine blk_drew ?_ | refine blk_alloc ?_ _)); refine blk_put (cs := #[.int .i64 0, .int .i64 0, .int .i64 0, .slice none 0 0, .slice none 0 0]) ?_ 3 _ rfl; (with_reducible repeat (first | refine blk_drewN ?_ _ | refine blk_drew ?_ | refine blk_alloc ?_ _)); refine blk_put (cs := #[.int .i64 0, .int .i64 0, .int .i64 0, .slice none 0 0, .slice none 0 0]) ?_ 2 _ rfl; (with_reducible repeat (first | refine blk_drewN ?_ _ | refine blk_drew ?_ | refine blk_alloc ?_ _)); refine blk_put (cs := #[.int .i64 0, .int .i64 0, .int .i64 0, .slice none 0 0, .slice none 0 0]) ?_ 1 _ rfl; (with_reducible repeat (first | refine blk_drewN ?_ _ | refine blk_drew ?_ | refine blk_alloc ?_ _)); refine blk_put (cs := #[.int .i64 0, .int .i64 0, .int .i64 0, .slice none 0 0, .slice none 0 0]) ?_ 0 _ rfl; (with_reducible repeat (first | refine blk_drewN ?_ _ | refine blk_drew ?_ | refine blk_alloc ?_ _)); exact BK154.out) Try.underlying31 rfl (by kernel_rfl)) rfl ?_
                exact ⟨_, _, by first | rfl | (simp [errW_none, errW_some] <;> rfl) | (simp [*, errW_none, errW_some] <;> rfl), by first | exact Kd.R_nil _ _ _ _ _ | exact Kd.N_nil _ _ _ _ _ | exact Kd.V_nil _ _ _ _ _ | exact Kd.Q_nil _ _ _ _ _ | exact Kd.S_nil _ _ _ _ _, by first | exact Kd.R_nil _ _ _ _ _ | exact Kd.N_nil _ _ _ _ _ | exact Kd.V_nil _ _ _ _ _ | exact Kd.Q_nil _ _ _ _ _ | exact Kd.S_nil _ _ _ _ _, by repeat (first | (with_reducible first | exact HB.out | apply below_alloc | apply pw_below_drewN | apply below_drew1 | refine below_set ?_ (IsS48.ge HI155.out) | refine below_set ?_ GE154.out | refine below_set ?_ GE169.out | refine below_set ?_ GE170.out) | exact HB.out)⟩

end Go.Proofs.Ytgpepiefojjkaaa.ZFil
