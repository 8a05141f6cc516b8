/- Of fractions, what was added or multiplied can be taken back, and a factor goes to each part of a sum. -/
import Derived.Test.YtdaggnflamacgaaC8
import Derived.Test.YtdaggnflamacgaaC9
set_option linter.unusedVariables false
set_option linter.unusedSimpArgs false
namespace Go.Proofs.Ytdaggnflamacgaa.ZRat
open Go.RowKit Go.Proofs.Ytdaggnflamacgaa.Wd
open Go Go.Proofs.Ytdaggnflamacgaa.Ab Go.Proofs Go.Proofs.Ytdaggnflamacgaa.Num Go.Proofs.Ytdaggnflamacgaa.ZRatP
set_option linter.unusedSimpArgs false
set_option linter.unusedVariables false
set_option maxHeartbeats 8000000
set_option maxRecDepth 100000
theorem NBd (n : Nat) (h0 : 0 < n) (h : n < 10) : NB 10 n = [(n : Int)] := by
  rw [NB_pos (by omega) h0, Nat.mod_eq_of_lt h, Nat.div_eq_of_lt h, NB_zero]
theorem show_live : showP (-3) 2 = (⟨#[45, 51, 47, 50]⟩ : ByteArray) := by
  unfold showP showZ showS decS
  rw [if_neg (by omega), if_pos (by omega), show (-3 : Int).natAbs = 3 from rfl, if_neg (by omega), if_neg (by omega), NBd 3 (by omega) (by omega), NBd 2 (by omega) (by omega)]
  rfl
theorem IVal_trueN (n : Nat) : IVal true (NB 4294967296 n) = -(n : Int) := by unfold IVal; rw [VBN]; rfl
theorem live1 : ((6 : Rat) / -4).num = -3 ∧ ((6 : Rat) / -4).den = 2 := by decide +kernel
theorem live2 : (mkRat (-3) 2).num = -3 ∧ (mkRat (-3) 2).den = 2 := by decide +kernel
noncomputable def L5short : List AV → Option AV
  | [x0] => (ratX x0).bind fun a0 => some (.agg [.bool a0.1, rowI .u32 (cut 6 a0.2.1), rowI .u32 (cut 6 a0.2.2)])
  | _ => none
noncomputable def E_L5short : Env := mkS [] [] [(6, [([], [], false), ([], [], false), ([], [], true), ([], [], false), ([], [], false), ([0], [2], true), ([], [], false), ([], [5], false), ([], [], false), ([0, 1, 2], [2], false), ([], [], false), ([0, 1, 2, 3], [], false)])]
theorem run_L5short (s0 : Bool) (l0 m0 : List Int) : AEnds E_L5short (finW Try.prog Try.f18.results) 0 [.code (Try.f18.body.getD .skip)] (startA Try.f18 [.agg [.bool s0, rowI .u32 l0, rowI .u32 m0]] [] []) (.agg [.bool s0, rowI .u32 (cut 6 l0), rowI .u32 (cut 6 m0)]) := by
  simp only [Try.f18, Option.getD_some, startA]
  simp only [cut]
  by_cases h1 : 6 < l0.length
  · have e1 : (l0.take 6).length = 6 := by simp; omega
    by_cases h2 : 6 < m0.length
    · have e2 : (m0.take 6).length = 6 := by simp; omega
      simp (maxSteps := 4000000) (disch := (first | with_reducible rfl | assumption | with_reducible exact WB_NB _ _ | (with_reducible refine nb_le ?_; omega) | (with_reducible refine nb16_le ?_; omega) | omega | (simp only [List.length_append, List.length_map, List.length_cons, List.length_nil, List.length_set, List.length_replicate, List.length_take, List.size_toArray]; omega))) [E_L5short, h1, h2, e1, e2]
    · rw [List.take_of_length_le (l := m0) (by omega)]
      simp (maxSteps := 4000000) (disch := (first | with_reducible rfl | assumption | with_reducible exact WB_NB _ _ | (with_reducible refine nb_le ?_; omega) | (with_reducible refine nb16_le ?_; omega) | omega | (simp only [List.length_append, List.length_map, List.length_cons, List.length_nil, List.length_set, List.length_replicate, List.length_take, List.size_toArray]; omega))) [E_L5short, h1, h2, e1]
  · rw [List.take_of_length_le (l := l0) (by omega)]
    by_cases h2 : 6 < m0.length
    · have e2 : (m0.take 6).length = 6 := by simp; omega
      simp (maxSteps := 4000000) (disch := (first | with_reducible rfl | assumption | with_reducible exact WB_NB _ _ | (with_reducible refine nb_le ?_; omega) | (with_reducible refine nb16_le ?_; omega) | omega | (simp only [List.length_append, List.length_map, List.length_cons, List.length_nil, List.length_set, List.length_replicate, List.length_take, List.size_toArray]; omega))) [E_L5short, h1, h2, e2]
    · rw [List.take_of_length_le (l := m0) (by omega)]
      simp (maxSteps := 4000000) (disch := (first | with_reducible rfl | assumption | with_reducible exact WB_NB _ _ | (with_reducible refine nb_le ?_; omega) | (with_reducible refine nb16_le ?_; omega) | omega | (simp only [List.length_append, List.length_map, List.length_cons, List.length_nil, List.length_set, List.length_replicate, List.length_take, List.size_toArray]; omega))) [E_L5short, h1, h2]
theorem sL5short : GoodS (18, L5short) := by
  intro xs r h
  simp only at h
  unfold L5short at h
  split at h
  · obtain ⟨a0, h0, h⟩ := Option.bind_eq_some_iff.1 h
    cases h
    obtain rfl := ratX_out h0
    obtain ⟨s0, l0, m0⟩ := a0
    exact okW_ends (mkS_ok alls_nil) mixed Try.func18 rfl (by kernel_rfl : Fits Try.prog E_L5short.ref E_L5short.dep Try.f18 = true) (run_L5short _ _ _)
  · cases h
attribute [simp] L5short
noncomputable def L5lives : List AV → Option AV
  | [] => some (.bool true)
  | _ => none
noncomputable def E_L5lives : Env := mkS [(32, RMake), (21, RRound), (65, RShow)] [] []
theorem run_L5lives  : AEnds E_L5lives (finW Try.prog Try.f31.results) 0 [.code (Try.f31.body.getD .skip)] (startA Try.f31 [] [] []) (.bool true) := by
  simp only [Try.f31, Option.getD_some, startA]
  simp (maxSteps := 4000000) (disch := (first | with_reducible rfl | assumption | with_reducible exact WB_NB _ _ | (with_reducible refine nb_le ?_; omega) | (with_reducible refine nb16_le ?_; omega) | omega | (simp only [List.length_append, List.length_map, List.length_cons, List.length_nil, List.length_set, List.length_replicate, List.length_take, List.size_toArray]; omega))) [E_L5lives, roundQ, live1.1, live1.2, live2.1, live2.2, IVal_trueN, show_live]
theorem sL5lives : GoodS (31, L5lives) := by
  intro xs r h
  simp only at h
  unfold L5lives at h
  split at h
  · skip
    cases h
    exact okW_ends (mkS_ok (alls_cons sRMake (alls_cons sRRound (alls_cons sRShow alls_nil)))) mixed Try.func31 rfl (by kernel_rfl : Fits Try.prog E_L5lives.ref E_L5lives.dep Try.f31 = true) (run_L5lives )
  · cases h
attribute [simp] L5lives
end Go.Proofs.Ytdaggnflamacgaa.ZRat
namespace Go.Proofs.Ytdaggnflamacgaa.ZRat
open Go.RowKit Go.Proofs.Ytdaggnflamacgaa.Wd
open Go Go.Proofs.Ytdaggnflamacgaa.Ab Go.Proofs Go.Proofs.Ytdaggnflamacgaa.Num Go.Proofs.Ytdaggnflamacgaa.ZRatP
set_option linter.unusedSimpArgs false
set_option linter.unusedVariables false
set_option maxHeartbeats 8000000
set_option maxRecDepth 100000
theorem addneg (p q : Rat) : p + -q = p - q := (Rat.sub_eq_add_neg p q).symm
theorem natAbsQ {d : Int} (h : 0 < d) : ((d.natAbs : Nat) : Rat) = (d : Rat) := by rw [← Rat.intCast_natCast, Int.natAbs_of_nonneg (by omega)]
theorem castne {d : Int} (h : d ≠ 0) : (d : Rat) ≠ 0 := by rw [Ne, Rat.intCast_eq_zero_iff]; exact h
theorem mkZero {n d : Int} (h : 0 < d) : (mkRat n d.natAbs = 0) = (n = 0) := by
  apply propext; rw [Rat.mkRat_eq_zero (by omega)]
theorem div_pos {n0 n1 d0 d1 : Int} (h0 : 0 < d0) (h1 : 0 < d1) (hn : 0 < d0 * n1) : mkRat (n0 * d1) (d0 * n1).natAbs = mkRat n0 d0.natAbs / mkRat n1 d1.natAbs := by
  have hz : n1 ≠ 0 := by intro e; subst e; simp at hn
  have c0 := castne (show d0 ≠ 0 by omega)
  have c1 := castne (show d1 ≠ 0 by omega)
  have c2 := castne hz
  rw [Rat.mkRat_eq_div, Rat.mkRat_eq_div, Rat.mkRat_eq_div, natAbsQ hn, natAbsQ h0, natAbsQ h1, Rat.intCast_mul, Rat.intCast_mul]
  grind
theorem div_neg {n0 n1 d0 d1 : Int} (h0 : 0 < d0) (h1 : 0 < d1) (hn : d0 * n1 < 0) : mkRat (-(n0 * d1)) (-(d0 * n1)).natAbs = mkRat n0 d0.natAbs / mkRat n1 d1.natAbs := by
  have hz : n1 ≠ 0 := by intro e; subst e; simp at hn
  have c0 := castne (show d0 ≠ 0 by omega)
  have c1 := castne (show d1 ≠ 0 by omega)
  have c2 := castne hz
  rw [Rat.mkRat_eq_div, Rat.mkRat_eq_div, Rat.mkRat_eq_div, natAbsQ (show 0 < -(d0 * n1) by omega), natAbsQ h0, natAbsQ h1, Rat.intCast_neg, Rat.intCast_neg, Rat.intCast_mul, Rat.intCast_mul]
  grind
theorem quo_pos {z w : Int} (h : 0 < w) : mkRat z w.natAbs = (z : Rat) / (w : Rat) := by rw [Rat.mkRat_eq_div, natAbsQ h]
theorem quo_neg {z w : Int} (h : w < 0) : mkRat (-z) (-w).natAbs = (z : Rat) / (w : Rat) := by
  have c := castne (show w ≠ 0 by omega)
  rw [Rat.mkRat_eq_div, natAbsQ (show 0 < -w by omega), Rat.intCast_neg, Rat.intCast_neg]
  grind
theorem mkOne (n : Int) : mkRat n 1 = (n : Rat) := by rw [Rat.mkRat_eq_div]; simp; grind
theorem signE {n d : Int} (h : 0 < d) : (mkRat n d.natAbs).num.sign = n.sign := (lowest_num n d.natAbs (by omega)).1
theorem cmpQ_self (p : Rat) : cmpQ p p = 0 := cmpZ_self _
theorem rintC_m {L m n : Nat} (hn : m = (NB 65536 n).length) (hl : (NB 65536 n).length ≤ L) (h0 : 0 < n) : rintC L (.int .i64 (-1)) (.row m ((NB 65536 n).map (.int .i64))) = some (-(n : Int)) := by
  have h1 : (-((n : Nat) : Int)).sign = -1 := Int.sign_eq_neg_one_of_neg (by omega)
  have := rintC_can (L := L) (z := -(n : Int)) (m := m) (by simpa using hn) (by simpa using hl)
  rwa [h1, Int.natAbs_neg, Int.natAbs_natCast] at this
theorem sgnm : (-1 : Int).sign = -1 := rfl
theorem floorE {n d : Int} (h : 0 < d) : floorQ (mkRat n d.natAbs) = n.fdiv d := by
  unfold floorQ
  have hp : 0 < ((mkRat n d.natAbs).den : Int) := by have := (mkRat n d.natAbs).den_pos; omega
  rw [Int.fdiv_eq_ediv_of_nonneg _ (by omega), Int.fdiv_eq_ediv_of_nonneg _ (by omega)]
  have e := (Rat.mkRat_eq_iff (n₁ := (mkRat n d.natAbs).num) (n₂ := n) (mkRat n d.natAbs).den_nz (show d.natAbs ≠ 0 by omega)).1 (Rat.mkRat_self _)
  rw [Int.natAbs_of_nonneg (by omega)] at e
  generalize (mkRat n d.natAbs).num = a at *
  generalize ((mkRat n d.natAbs).den : Int) = b at *
  have e1 : a / b = (a * d) / (b * d) := (Int.mul_ediv_mul_of_pos_left a b h).symm
  have e2 : n / d = (n * b) / (d * b) := (Int.mul_ediv_mul_of_pos_left n d hp).symm
  rw [e1, e2, e, Int.mul_comm b d]
theorem roundE {n d : Int} (h : 0 < d) : roundQ (mkRat n d.natAbs) = (n * 2 + 1 * d).fdiv (d * 2) := by
  unfold roundQ
  have hp : 0 < ((mkRat n d.natAbs).den : Int) := by have := (mkRat n d.natAbs).den_pos; omega
  rw [Int.fdiv_eq_ediv_of_nonneg _ (by omega), Int.fdiv_eq_ediv_of_nonneg _ (by omega)]
  have e := (Rat.mkRat_eq_iff (n₁ := (mkRat n d.natAbs).num) (n₂ := n) (mkRat n d.natAbs).den_nz (show d.natAbs ≠ 0 by omega)).1 (Rat.mkRat_self _)
  rw [Int.natAbs_of_nonneg (by omega)] at e
  rw [Int.natCast_add]
  generalize (mkRat n d.natAbs).num = a at *
  generalize ((mkRat n d.natAbs).den : Int) = b at *
  have e1 : (a + a + b) / (b + b) = ((a + a + b) * d) / ((b + b) * d) := (Int.mul_ediv_mul_of_pos_left _ _ h).symm
  have e2 : (n * 2 + 1 * d) / (d * 2) = ((n * 2 + 1 * d) * b) / (d * 2 * b) := (Int.mul_ediv_mul_of_pos_left _ _ hp).symm
  rw [e1, e2]
  have e3 : (a + a + b) * d = (n * 2 + 1 * d) * b := by rw [Int.add_mul, Int.add_mul, e, Int.add_mul]; simp only [Int.one_mul]; rw [Int.mul_assoc n 2 b, Int.mul_comm b d, show n * (2 * b) = n * b + n * b by rw [← Int.mul_add]; congr 1; omega]
  have e4 : (b + b) * d = d * 2 * b := by rw [Int.add_mul, Int.mul_assoc, Int.mul_comm b d, show d * (2 * b) = d * b + d * b by rw [← Int.mul_add]; congr 1; omega]
  rw [e3, e4]
noncomputable def E_RatFields : Env := mkS [(18, L5short), (31, L5lives), (59, RDiv), (60, RMul), (63, RCmp), (41, RAdd), (43, RSub), (64, RSign), (65, RShow)] [] [(2, [([], [], false), ([], [], false), ([], [], false), ([], [], false), ([], [], false), ([], [], false), ([], [], false), ([], [], false), ([], [], false), ([0], [], false), ([], [], false)]), (5, [([], [], false), ([], [], false), ([], [], false), ([], [], false), ([], [], false), ([], [], false), ([], [], false), ([], [], false), ([], [], false), ([], [], false), ([], [], false), ([], [], false), ([], [], false), ([], [], false), ([0, 1], [], false), ([0, 1], [], false)])]
theorem run_RatFields (s0 : Bool) (l0 m0 : List Int) (w0 : WB 4294967296 l0) (v0 : WB 4294967296 m0) (s1 : Bool) (l1 m1 : List Int) (w1 : WB 4294967296 l1) (v1 : WB 4294967296 m1) (s2 : Bool) (l2 m2 : List Int) (w2 : WB 4294967296 l2) (v2 : WB 4294967296 m2) : AEnds E_RatFields (finW Try.prog Try.f15.results) 0 [.code (Try.f15.body.getD .skip)] (startA Try.f15 [.agg [.bool s0, rowI .u32 l0, rowI .u32 m0], .agg [.bool s1, rowI .u32 l1, rowI .u32 m1], .agg [.bool s2, rowI .u32 l2, rowI .u32 m2]] [] []) (.bool true) := by
  have wz0 := WB_cut w0 6
  have wd0 := WB_cut v0 6
  have bz0 := cut_le 6 l0
  have bd0 := cut_le 6 m0
  haveI := SzI.val (neg := s0) wz0 bz0
  haveI := SzN.val wd0 bd0
  have hD0 := rD_pos (VB 4294967296 (cut 6 m0))
  have hE0 := canonE (IVal s0 (cut 6 l0)) (VB 4294967296 (cut 6 m0))
  have hN0 := rD_ne (VB 4294967296 (cut 6 m0))
  have wz1 := WB_cut w1 6
  have wd1 := WB_cut v1 6
  have bz1 := cut_le 6 l1
  have bd1 := cut_le 6 m1
  haveI := SzI.val (neg := s1) wz1 bz1
  haveI := SzN.val wd1 bd1
  have hD1 := rD_pos (VB 4294967296 (cut 6 m1))
  have hE1 := canonE (IVal s1 (cut 6 l1)) (VB 4294967296 (cut 6 m1))
  have hN1 := rD_ne (VB 4294967296 (cut 6 m1))
  have wz2 := WB_cut w2 6
  have wd2 := WB_cut v2 6
  have bz2 := cut_le 6 l2
  have bd2 := cut_le 6 m2
  haveI := SzI.val (neg := s2) wz2 bz2
  haveI := SzN.val wd2 bd2
  have hD2 := rD_pos (VB 4294967296 (cut 6 m2))
  have hE2 := canonE (IVal s2 (cut 6 l2)) (VB 4294967296 (cut 6 m2))
  have hN2 := rD_ne (VB 4294967296 (cut 6 m2))
  generalize hp : mkRat (IVal s0 (cut 6 l0)) (VB 4294967296 (cut 6 m0)) = p
  generalize hq : mkRat (IVal s1 (cut 6 l1)) (VB 4294967296 (cut 6 m1)) = q
  generalize hr : mkRat (IVal s2 (cut 6 l2)) (VB 4294967296 (cut 6 m2)) = r
  haveI : SzQ p 13 := by rw [← hp]; infer_instance
  haveI : SzQ q 13 := by rw [← hq]; infer_instance
  haveI : SzQ r 13 := by rw [← hr]; infer_instance
  have hm : p * q + p * r = p * (q + r) := (Rat.mul_add p q r).symm
  simp only [Try.f15, Option.getD_some, startA]
  by_cases hz : q = 0
  · have hn : q.num.sign = 0 := by rw [hz]; rfl
    simp (maxSteps := 4000000) (disch := (first | with_reducible rfl | assumption | with_reducible exact WB_NB _ _ | (with_reducible refine nb_le ?_; omega) | (with_reducible refine nb16_le ?_; omega) | omega | (simp only [List.length_append, List.length_map, List.length_cons, List.length_nil, List.length_set, List.length_replicate, List.length_take, List.size_toArray]; omega))) [E_RatFields, hp, hq, hr, hz, hm, cmpQ_self, Rat.zero_add, Rat.add_sub_cancel, -Rat.mkRat_mul_mkRat]
  · have hn : ¬ q.num.sign = 0 := by rw [Int.sign_eq_zero_iff_zero, Rat.num_eq_zero]; exact hz
    have hd : p * q / q = p := Rat.mul_div_cancel hz
    have hn2 : ¬ q.num = 0 := by rw [Rat.num_eq_zero]; exact hz
    simp (maxSteps := 4000000) (disch := (first | with_reducible rfl | assumption | with_reducible exact WB_NB _ _ | (with_reducible refine nb_le ?_; omega) | (with_reducible refine nb16_le ?_; omega) | omega | (simp only [List.length_append, List.length_map, List.length_cons, List.length_nil, List.length_set, List.length_replicate, List.length_take, List.size_toArray]; omega))) [E_RatFields, hp, hq, hr, hz, hn, hn2, hd, hm, cmpQ_self, Rat.zero_add, Rat.add_sub_cancel, -Rat.mkRat_mul_mkRat]
theorem law_RatFields (s0 : Bool) (l0 m0 : List Int) (w0 : WB 4294967296 l0) (v0 : WB 4294967296 m0) (s1 : Bool) (l1 m1 : List Int) (w1 : WB 4294967296 l1) (v1 : WB 4294967296 m1) (s2 : Bool) (l2 m2 : List Int) (w2 : WB 4294967296 l2) (v2 : WB 4294967296 m2) : OkV Try.prog 15 [.agg [.bool s0, rowI .u32 l0, rowI .u32 m0], .agg [.bool s1, rowI .u32 l1, rowI .u32 m1], .agg [.bool s2, rowI .u32 l2, rowI .u32 m2]] (.bool true) :=
  okW_ends (mkS_ok (alls_cons sL5short (alls_cons sL5lives (alls_cons sRDiv (alls_cons sRMul (alls_cons sRCmp (alls_cons sRAdd (alls_cons sRSub (alls_cons sRSign (alls_cons sRShow alls_nil)))))))))) mixed Try.func15 rfl (by kernel_rfl : Fits Try.prog E_RatFields.ref E_RatFields.dep Try.f15 = true) (run_RatFields s0 l0 m0 w0 v0 s1 l1 m1 w1 v1 s2 l2 m2 w2 v2)
end Go.Proofs.Ytdaggnflamacgaa.ZRat
