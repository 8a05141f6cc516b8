/- The floor of any fraction, and the whole number that is nearest to it, are as the document says. -/
import Derived.Test.YtdaggnflamacgaaC8
import Derived.Test.YtdaggnflamacgaaC9
set_option linter.unusedVariables false
set_option linter.unusedSimpArgs false
namespace Go.Proofs.Ytdaggnflamacgaa.ZRat
open Go.RowKit Go.Proofs.Ytdaggnflamacgaa.Wd
open Go Go.Proofs.Ytdaggnflamacgaa.Ab Go.Proofs Go.Proofs.Ytdaggnflamacgaa.Num Go.Proofs.Ytdaggnflamacgaa.ZRatP
set_option linter.unusedSimpArgs false
set_option linter.unusedVariables false
set_option maxHeartbeats 8000000
set_option maxRecDepth 100000
theorem NBd (n : Nat) (h0 : 0 < n) (h : n < 10) : NB 10 n = [(n : Int)] := by
  rw [NB_pos (by omega) h0, Nat.mod_eq_of_lt h, Nat.div_eq_of_lt h, NB_zero]
theorem show_live : showP (-3) 2 = (⟨#[45, 51, 47, 50]⟩ : ByteArray) := by
  unfold showP showZ showS decS
  rw [if_neg (by omega), if_pos (by omega), show (-3 : Int).natAbs = 3 from rfl, if_neg (by omega), if_neg (by omega), NBd 3 (by omega) (by omega), NBd 2 (by omega) (by omega)]
  rfl
theorem IVal_trueN (n : Nat) : IVal true (NB 4294967296 n) = -(n : Int) := by unfold IVal; rw [VBN]; rfl
theorem live1 : ((6 : Rat) / -4).num = -3 ∧ ((6 : Rat) / -4).den = 2 := by decide +kernel
theorem live2 : (mkRat (-3) 2).num = -3 ∧ (mkRat (-3) 2).den = 2 := by decide +kernel
noncomputable def L5short : List AV → Option AV
  | [x0] => (ratX x0).bind fun a0 => some (.agg [.bool a0.1, rowI .u32 (cut 6 a0.2.1), rowI .u32 (cut 6 a0.2.2)])
  | _ => none
noncomputable def E_L5short : Env := mkS [] [] [(6, [([], [], false), ([], [], false), ([], [], true), ([], [], false), ([], [], false), ([0], [2], true), ([], [], false), ([], [5], false), ([], [], false), ([0, 1, 2], [2], false), ([], [], false), ([0, 1, 2, 3], [], false)])]
theorem run_L5short (s0 : Bool) (l0 m0 : List Int) : AEnds E_L5short (finW Try.prog Try.f18.results) 0 [.code (Try.f18.body.getD .skip)] (startA Try.f18 [.agg [.bool s0, rowI .u32 l0, rowI .u32 m0]] [] []) (.agg [.bool s0, rowI .u32 (cut 6 l0), rowI .u32 (cut 6 m0)]) := by
  simp only [Try.f18, Option.getD_some, startA]
  simp only [cut]
  by_cases h1 : 6 < l0.length
  · have e1 : (l0.take 6).length = 6 := by simp; omega
    by_cases h2 : 6 < m0.length
    · have e2 : (m0.take 6).length = 6 := by simp; omega
      simp (maxSteps := 4000000) (disch := (first | with_reducible rfl | assumption | with_reducible exact WB_NB _ _ | (with_reducible refine nb_le ?_; omega) | (with_reducible refine nb16_le ?_; omega) | omega | (simp only [List.length_append, List.length_map, List.length_cons, List.length_nil, List.length_set, List.length_replicate, List.length_take, List.size_toArray]; omega))) [E_L5short, h1, h2, e1, e2]
    · rw [List.take_of_length_le (l := m0) (by omega)]
      simp (maxSteps := 4000000) (disch := (first | with_reducible rfl | assumption | with_reducible exact WB_NB _ _ | (with_reducible refine nb_le ?_; omega) | (with_reducible refine nb16_le ?_; omega) | omega | (simp only [List.length_append, List.length_map, List.length_cons, List.length_nil, List.length_set, List.length_replicate, List.length_take, List.size_toArray]; omega))) [E_L5short, h1, h2, e1]
  · rw [List.take_of_length_le (l := l0) (by omega)]
    by_cases h2 : 6 < m0.length
    · have e2 : (m0.take 6).length = 6 := by simp; omega
      simp (maxSteps := 4000000) (disch := (first | with_reducible rfl | assumption | with_reducible exact WB_NB _ _ | (with_reducible refine nb_le ?_; omega) | (with_reducible refine nb16_le ?_; omega) | omega | (simp only [List.length_append, List.length_map, List.length_cons, List.length_nil, List.length_set, List.length_replicate, List.length_take, List.size_toArray]; omega))) [E_L5short, h1, h2, e2]
    · rw [List.take_of_length_le (l := m0) (by omega)]
      simp (maxSteps := 4000000) (disch := (first | with_reducible rfl | assumption | with_reducible exact WB_NB _ _ | (with_reducible refine nb_le ?_; omega) | (with_reducible refine nb16_le ?_; omega) | omega | (simp only [List.length_append, List.length_map, List.length_cons, List.length_nil, List.length_set, List.length_replicate, List.length_take, List.size_toArray]; omega))) [E_L5short, h1, h2]
theorem sL5short : GoodS (18, L5short) := by
  intro xs r h
  simp only at h
  unfold L5short at h
  split at h
  · obtain ⟨a0, h0, h⟩ := Option.bind_eq_some_iff.1 h
    cases h
    obtain rfl := ratX_out h0
    obtain ⟨s0, l0, m0⟩ := a0
    exact okW_ends (mkS_ok alls_nil) mixed Try.func18 rfl (by kernel_rfl : Fits Try.prog E_L5short.ref E_L5short.dep Try.f18 = true) (run_L5short _ _ _)
  · cases h
attribute [simp] L5short
noncomputable def L5lives : List AV → Option AV
  | [] => some (.bool true)
  | _ => none
noncomputable def E_L5lives : Env := mkS [(32, RMake), (21, RRound), (65, RShow)] [] []
theorem run_L5lives  : AEnds E_L5lives (finW Try.prog Try.f31.results) 0 [.code (Try.f31.body.getD .skip)] (startA Try.f31 [] [] []) (.bool true) := by
  simp only [Try.f31, Option.getD_some, startA]
  simp (maxSteps := 4000000) (disch := (first | with_reducible rfl | assumption | with_reducible exact WB_NB _ _ | (with_reducible refine nb_le ?_; omega) | (with_reducible refine nb16_le ?_; omega) | omega | (simp only [List.length_append, List.length_map, List.length_cons, List.length_nil, List.length_set, List.length_replicate, List.length_take, List.size_toArray]; omega))) [E_L5lives, roundQ, live1.1, live1.2, live2.1, live2.2, IVal_trueN, show_live]
theorem sL5lives : GoodS (31, L5lives) := by
  intro xs r h
  simp only at h
  unfold L5lives at h
  split at h
  · skip
    cases h
    exact okW_ends (mkS_ok (alls_cons sRMake (alls_cons sRRound (alls_cons sRShow alls_nil)))) mixed Try.func31 rfl (by kernel_rfl : Fits Try.prog E_L5lives.ref E_L5lives.dep Try.f31 = true) (run_L5lives )
  · cases h
attribute [simp] L5lives
end Go.Proofs.Ytdaggnflamacgaa.ZRat
namespace Go.Proofs.Ytdaggnflamacgaa.ZRat
open Go.RowKit Go.Proofs.Ytdaggnflamacgaa.Wd
open Go Go.Proofs.Ytdaggnflamacgaa.Ab Go.Proofs Go.Proofs.Ytdaggnflamacgaa.Num Go.Proofs.Ytdaggnflamacgaa.ZRatP
set_option linter.unusedSimpArgs false
set_option linter.unusedVariables false
set_option maxHeartbeats 8000000
set_option maxRecDepth 100000
theorem addneg (p q : Rat) : p + -q = p - q := (Rat.sub_eq_add_neg p q).symm
theorem natAbsQ {d : Int} (h : 0 < d) : ((d.natAbs : Nat) : Rat) = (d : Rat) := by rw [← Rat.intCast_natCast, Int.natAbs_of_nonneg (by omega)]
theorem castne {d : Int} (h : d ≠ 0) : (d : Rat) ≠ 0 := by rw [Ne, Rat.intCast_eq_zero_iff]; exact h
theorem mkZero {n d : Int} (h : 0 < d) : (mkRat n d.natAbs = 0) = (n = 0) := by
  apply propext; rw [Rat.mkRat_eq_zero (by omega)]
theorem div_pos {n0 n1 d0 d1 : Int} (h0 : 0 < d0) (h1 : 0 < d1) (hn : 0 < d0 * n1) : mkRat (n0 * d1) (d0 * n1).natAbs = mkRat n0 d0.natAbs / mkRat n1 d1.natAbs := by
  have hz : n1 ≠ 0 := by intro e; subst e; simp at hn
  have c0 := castne (show d0 ≠ 0 by omega)
  have c1 := castne (show d1 ≠ 0 by omega)
  have c2 := castne hz
  rw [Rat.mkRat_eq_div, Rat.mkRat_eq_div, Rat.mkRat_eq_div, natAbsQ hn, natAbsQ h0, natAbsQ h1, Rat.intCast_mul, Rat.intCast_mul]
  grind
theorem div_neg {n0 n1 d0 d1 : Int} (h0 : 0 < d0) (h1 : 0 < d1) (hn : d0 * n1 < 0) : mkRat (-(n0 * d1)) (-(d0 * n1)).natAbs = mkRat n0 d0.natAbs / mkRat n1 d1.natAbs := by
  have hz : n1 ≠ 0 := by intro e; subst e; simp at hn
  have c0 := castne (show d0 ≠ 0 by omega)
  have c1 := castne (show d1 ≠ 0 by omega)
  have c2 := castne hz
  rw [Rat.mkRat_eq_div, Rat.mkRat_eq_div, Rat.mkRat_eq_div, natAbsQ (show 0 < -(d0 * n1) by omega), natAbsQ h0, natAbsQ h1, Rat.intCast_neg, Rat.intCast_neg, Rat.intCast_mul, Rat.intCast_mul]
  grind
theorem quo_pos {z w : Int} (h : 0 < w) : mkRat z w.natAbs = (z : Rat) / (w : Rat) := by rw [Rat.mkRat_eq_div, natAbsQ h]
theorem quo_neg {z w : Int} (h : w < 0) : mkRat (-z) (-w).natAbs = (z : Rat) / (w : Rat) := by
  have c := castne (show w ≠ 0 by omega)
  rw [Rat.mkRat_eq_div, natAbsQ (show 0 < -w by omega), Rat.intCast_neg, Rat.intCast_neg]
  grind
theorem mkOne (n : Int) : mkRat n 1 = (n : Rat) := by rw [Rat.mkRat_eq_div]; simp; grind
theorem signE {n d : Int} (h : 0 < d) : (mkRat n d.natAbs).num.sign = n.sign := (lowest_num n d.natAbs (by omega)).1
theorem cmpQ_self (p : Rat) : cmpQ p p = 0 := cmpZ_self _
theorem rintC_m {L m n : Nat} (hn : m = (NB 65536 n).length) (hl : (NB 65536 n).length ≤ L) (h0 : 0 < n) : rintC L (.int .i64 (-1)) (.row m ((NB 65536 n).map (.int .i64))) = some (-(n : Int)) := by
  have h1 : (-((n : Nat) : Int)).sign = -1 := Int.sign_eq_neg_one_of_neg (by omega)
  have := rintC_can (L := L) (z := -(n : Int)) (m := m) (by simpa using hn) (by simpa using hl)
  rwa [h1, Int.natAbs_neg, Int.natAbs_natCast] at this
theorem sgnm : (-1 : Int).sign = -1 := rfl
theorem floorE {n d : Int} (h : 0 < d) : floorQ (mkRat n d.natAbs) = n.fdiv d := by
  unfold floorQ
  have hp : 0 < ((mkRat n d.natAbs).den : Int) := by have := (mkRat n d.natAbs).den_pos; omega
  rw [Int.fdiv_eq_ediv_of_nonneg _ (by omega), Int.fdiv_eq_ediv_of_nonneg _ (by omega)]
  have e := (Rat.mkRat_eq_iff (n₁ := (mkRat n d.natAbs).num) (n₂ := n) (mkRat n d.natAbs).den_nz (show d.natAbs ≠ 0 by omega)).1 (Rat.mkRat_self _)
  rw [Int.natAbs_of_nonneg (by omega)] at e
  generalize (mkRat n d.natAbs).num = a at *
  generalize ((mkRat n d.natAbs).den : Int) = b at *
  have e1 : a / b = (a * d) / (b * d) := (Int.mul_ediv_mul_of_pos_left a b h).symm
  have e2 : n / d = (n * b) / (d * b) := (Int.mul_ediv_mul_of_pos_left n d hp).symm
  rw [e1, e2, e, Int.mul_comm b d]
theorem roundE {n d : Int} (h : 0 < d) : roundQ (mkRat n d.natAbs) = (n * 2 + 1 * d).fdiv (d * 2) := by
  unfold roundQ
  have hp : 0 < ((mkRat n d.natAbs).den : Int) := by have := (mkRat n d.natAbs).den_pos; omega
  rw [Int.fdiv_eq_ediv_of_nonneg _ (by omega), Int.fdiv_eq_ediv_of_nonneg _ (by omega)]
  have e := (Rat.mkRat_eq_iff (n₁ := (mkRat n d.natAbs).num) (n₂ := n) (mkRat n d.natAbs).den_nz (show d.natAbs ≠ 0 by omega)).1 (Rat.mkRat_self _)
  rw [Int.natAbs_of_nonneg (by omega)] at e
  rw [Int.natCast_add]
  generalize (mkRat n d.natAbs).num = a at *
  generalize ((mkRat n d.natAbs).den : Int) = b at *
  have e1 : (a + a + b) / (b + b) = ((a + a + b) * d) / ((b + b) * d) := (Int.mul_ediv_mul_of_pos_left _ _ h).symm
  have e2 : (n * 2 + 1 * d) / (d * 2) = ((n * 2 + 1 * d) * b) / (d * 2 * b) := (Int.mul_ediv_mul_of_pos_left _ _ hp).symm
  rw [e1, e2]
  have e3 : (a + a + b) * d = (n * 2 + 1 * d) * b := by rw [Int.add_mul, Int.add_mul, e, Int.add_mul]; simp only [Int.one_mul]; rw [Int.mul_assoc n 2 b, Int.mul_comm b d, show n * (2 * b) = n * b + n * b by rw [← Int.mul_add]; congr 1; omega]
  have e4 : (b + b) * d = d * 2 * b := by rw [Int.add_mul, Int.mul_assoc, Int.mul_comm b d, show d * (2 * b) = d * b + d * b by rw [← Int.mul_add]; congr 1; omega]
  rw [e3, e4]
noncomputable def E_RatRounds : Env := mkS [(18, L5short), (31, L5lives), (19, FOf), (20, RFloor), (21, RRound), (22, ZLong), (24, ZOf), (23, FSub), (26, FFloor), (27, FRound), (25, ZSame), (28, FCmp), (29, FNeg), (30, FLong)] [] [(3, [([], [], false), ([], [], false), ([], [], false), ([], [], false), ([], [], false), ([], [], false), ([0, 1], [], false), ([0, 1], [], false)]), (5, [([], [], false), ([], [], false), ([], [], false), ([], [], false), ([], [], false), ([], [], false), ([], [], false), ([0], [], false)]), (6, [([], [], false), ([], [], false), ([], [], false), ([], [], false), ([], [], false), ([], [], false), ([], [], false), ([0], [], false)])]
theorem run_RatRounds (s0 : Bool) (l0 m0 : List Int) (w0 : WB 4294967296 l0) (v0 : WB 4294967296 m0) : AEnds E_RatRounds (finW Try.prog Try.f3.results) 0 [.code (Try.f3.body.getD .skip)] (startA Try.f3 [.agg [.bool s0, rowI .u32 l0, rowI .u32 m0]] [] []) (.bool true) := by
  have wz0 := WB_cut w0 6
  have wd0 := WB_cut v0 6
  have bz0 := cut_le 6 l0
  have bd0 := cut_le 6 m0
  haveI := SzI.val (neg := s0) wz0 bz0
  haveI := SzN.val wd0 bd0
  have hD0 := rD_pos (VB 4294967296 (cut 6 m0))
  have hE0 := canonE (IVal s0 (cut 6 l0)) (VB 4294967296 (cut 6 m0))
  have hN0 := rD_ne (VB 4294967296 (cut 6 m0))
  have e1 := floorE (n := rn (IVal s0 (cut 6 l0)) (VB 4294967296 (cut 6 m0))) hD0
  rw [hE0] at e1
  have e2 := roundE (n := rn (IVal s0 (cut 6 l0)) (VB 4294967296 (cut 6 m0))) hD0
  rw [hE0] at e2
  simp only [Try.f3, Option.getD_some, startA]
  generalize hn : rn (IVal s0 (cut 6 l0)) (VB 4294967296 (cut 6 m0)) = n at *
  generalize hd : rD (VB 4294967296 (cut 6 m0)) = D at *
  haveI : SzI n 6 := by rw [← hn]; infer_instance
  haveI : SzI D 7 := by rw [← hd]; infer_instance
  have f1 : n.fdiv D = n / D := Int.fdiv_eq_ediv_of_nonneg _ (by omega)
  have f2 : (n * 2 + 1 * D).fdiv (D * 2) = (n * 2 + D) / (D * 2) := by rw [Int.one_mul]; exact Int.fdiv_eq_ediv_of_nonneg _ (by omega)
  rw [f1] at e1
  rw [f2] at e2
  haveI : SzI (n / D) 6 := ⟨Nat.lt_of_le_of_lt (Int.natAbs_ediv_le_natAbs n D) SzI.lt⟩
  haveI : SzI ((n * 2 + D) / (D * 2)) (6 + 1 + 7 + 1) := ⟨Nat.lt_of_le_of_lt (Int.natAbs_ediv_le_natAbs _ _) SzI.lt⟩
  have g1 := Int.ediv_mul_le n (show D ≠ 0 by omega)
  have g2 := Int.lt_ediv_add_one_mul_self n hD0
  have g3 := Int.ediv_mul_le (n * 2 + D) (show D * 2 ≠ 0 by omega)
  have g4 := Int.lt_ediv_add_one_mul_self (n * 2 + D) (show 0 < D * 2 by omega)
  generalize hf : n / D = f at *
  generalize hr : (n * 2 + D) / (D * 2) = r at *
  rw [Int.add_mul, Int.one_mul] at g2 g4
  rw [show r * (D * 2) = r * D * 2 from (Int.mul_assoc ..).symm] at g3 g4
  have k1 : cmpZ ((r * D + -n) * 2) D ≤ 0 := by
    unfold cmpZ
    generalize r * D = t at *
    split <;> (try split) <;> omega
  have k2 : 0 < cmpZ ((r * D + -n) * 2) (-D) := by
    unfold cmpZ
    generalize r * D = t at *
    split <;> (try split) <;> omega
  have k3 : 0 ≤ (n + -f * D).sign := by
    rw [Int.neg_mul]
    have : 0 ≤ n + -(f * D) := by omega
    rcases Int.lt_or_eq_of_le this with h | h
    · rw [Int.sign_eq_one_of_pos h]; omega
    · rw [← h]; decide
  have k4 : cmpZ (n + -f * D) D < 0 := by
    rw [Int.neg_mul]
    unfold cmpZ
    generalize f * D = t at *
    rw [if_pos (by omega)]; omega
  simp (maxSteps := 4000000) (disch := (first | with_reducible rfl | assumption | with_reducible exact WB_NB _ _ | (with_reducible refine nb_le ?_; omega) | (with_reducible refine nb16_le ?_; omega) | omega | (simp only [List.length_append, List.length_map, List.length_cons, List.length_nil, List.length_set, List.length_replicate, List.length_take, List.size_toArray]; omega))) [E_RatRounds, hn, hd, e1, e2, hN0, f1, f2, hf, hr, k1, k2, k3, k4, rintC_m, sgnm, -Int.sign_mul, -Int.sign_neg, -Int.natAbs_neg]
theorem law_RatRounds (s0 : Bool) (l0 m0 : List Int) (w0 : WB 4294967296 l0) (v0 : WB 4294967296 m0) : OkV Try.prog 3 [.agg [.bool s0, rowI .u32 l0, rowI .u32 m0]] (.bool true) :=
  okW_ends (mkS_ok (alls_cons sL5short (alls_cons sL5lives (alls_cons sFOf (alls_cons sRFloor (alls_cons sRRound (alls_cons sZLong (alls_cons sZOf (alls_cons sFSub (alls_cons sFFloor (alls_cons sFRound (alls_cons sZSame (alls_cons sFCmp (alls_cons sFNeg (alls_cons sFLong alls_nil))))))))))))))) mixed Try.func3 rfl (by kernel_rfl : Fits Try.prog E_RatRounds.ref E_RatRounds.dep Try.f3 = true) (run_RatRounds s0 l0 m0 w0 v0)
end Go.Proofs.Ytdaggnflamacgaa.ZRat
