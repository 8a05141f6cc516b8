/- Fractions add, subtract and change their sign as the document says. -/
import Derived.Test.YtdaggnflamacgaaC8
import Derived.Test.YtdaggnflamacgaaC9
set_option linter.unusedVariables false
set_option linter.unusedSimpArgs false
namespace Go.Proofs.Ytdaggnflamacgaa.ZRat
open Go.RowKit Go.Proofs.Ytdaggnflamacgaa.Wd
open Go Go.Proofs.Ytdaggnflamacgaa.Ab Go.Proofs Go.Proofs.Ytdaggnflamacgaa.Num Go.Proofs.Ytdaggnflamacgaa.ZRatP
set_option linter.unusedSimpArgs false
set_option linter.unusedVariables false
set_option maxHeartbeats 8000000
set_option maxRecDepth 100000
theorem NBd (n : Nat) (h0 : 0 < n) (h : n < 10) : NB 10 n = [(n : Int)] := by
  rw [NB_pos (by omega) h0, Nat.mod_eq_of_lt h, Nat.div_eq_of_lt h, NB_zero]
theorem show_live : showP (-3) 2 = (⟨#[45, 51, 47, 50]⟩ : ByteArray) := by
  unfold showP showZ showS decS
  rw [if_neg (by omega), if_pos (by omega), show (-3 : Int).natAbs = 3 from rfl, if_neg (by omega), if_neg (by omega), NBd 3 (by omega) (by omega), NBd 2 (by omega) (by omega)]
  rfl
theorem IVal_trueN (n : Nat) : IVal true (NB 4294967296 n) = -(n : Int) := by unfold IVal; rw [VBN]; rfl
theorem live1 : ((6 : Rat) / -4).num = -3 ∧ ((6 : Rat) / -4).den = 2 := by decide +kernel
theorem live2 : (mkRat (-3) 2).num = -3 ∧ (mkRat (-3) 2).den = 2 := by decide +kernel
noncomputable def L5short : List AV → Option AV
  | [x0] => (ratX x0).bind fun a0 => some (.agg [.bool a0.1, rowI .u32 (cut 6 a0.2.1), rowI .u32 (cut 6 a0.2.2)])
  | _ => none
noncomputable def E_L5short : Env := mkS [] [] [(6, [([], [], false), ([], [], false), ([], [], true), ([], [], false), ([], [], false), ([0], [2], true), ([], [], false), ([], [5], false), ([], [], false), ([0, 1, 2], [2], false), ([], [], false), ([0, 1, 2, 3], [], false)])]
theorem run_L5short (s0 : Bool) (l0 m0 : List Int) : AEnds E_L5short (finW Try.prog Try.f18.results) 0 [.code (Try.f18.body.getD .skip)] (startA Try.f18 [.agg [.bool s0, rowI .u32 l0, rowI .u32 m0]] [] []) (.agg [.bool s0, rowI .u32 (cut 6 l0), rowI .u32 (cut 6 m0)]) := by
  simp only [Try.f18, Option.getD_some, startA]
  simp only [cut]
  by_cases h1 : 6 < l0.length
  · have e1 : (l0.take 6).length = 6 := by simp; omega
    by_cases h2 : 6 < m0.length
    · have e2 : (m0.take 6).length = 6 := by simp; omega
      simp (maxSteps := 4000000) (disch := (first | with_reducible rfl | assumption | with_reducible exact WB_NB _ _ | (with_reducible refine nb_le ?_; omega) | (with_reducible refine nb16_le ?_; omega) | omega | (simp only [List.length_append, List.length_map, List.length_cons, List.length_nil, List.length_set, List.length_replicate, List.length_take, List.size_toArray]; omega))) [E_L5short, h1, h2, e1, e2]
    · rw [List.take_of_length_le (l := m0) (by omega)]
      simp (maxSteps := 4000000) (disch := (first | with_reducible rfl | assumption | with_reducible exact WB_NB _ _ | (with_reducible refine nb_le ?_; omega) | (with_reducible refine nb16_le ?_; omega) | omega | (simp only [List.length_append, List.length_map, List.length_cons, List.length_nil, List.length_set, List.length_replicate, List.length_take, List.size_toArray]; omega))) [E_L5short, h1, h2, e1]
  · rw [List.take_of_length_le (l := l0) (by omega)]
    by_cases h2 : 6 < m0.length
    · have e2 : (m0.take 6).length = 6 := by simp; omega
      simp (maxSteps := 4000000) (disch := (first | with_reducible rfl | assumption | with_reducible exact WB_NB _ _ | (with_reducible refine nb_le ?_; omega) | (with_reducible refine nb16_le ?_; omega) | omega | (simp only [List.length_append, List.length_map, List.length_cons, List.length_nil, List.length_set, List.length_replicate, List.length_take, List.size_toArray]; omega))) [E_L5short, h1, h2, e2]
    · rw [List.take_of_length_le (l := m0) (by omega)]
      simp (maxSteps := 4000000) (disch := (first | with_reducible rfl | assumption | with_reducible exact WB_NB _ _ | (with_reducible refine nb_le ?_; omega) | (with_reducible refine nb16_le ?_; omega) | omega | (simp only [List.length_append, List.length_map, List.length_cons, List.length_nil, List.length_set, List.length_replicate, List.length_take, List.size_toArray]; omega))) [E_L5short, h1, h2]
theorem sL5short : GoodS (18, L5short) := by
  intro xs r h
  simp only at h
  unfold L5short at h
  split at h
  · obtain ⟨a0, h0, h⟩ := Option.bind_eq_some_iff.1 h
    cases h
    obtain rfl := ratX_out h0
    obtain ⟨s0, l0, m0⟩ := a0
    exact okW_ends (mkS_ok alls_nil) mixed Try.func18 rfl (by kernel_rfl : Fits Try.prog E_L5short.ref E_L5short.dep Try.f18 = true) (run_L5short _ _ _)
  · cases h
attribute [simp] L5short
noncomputable def L5lives : List AV → Option AV
  | [] => some (.bool true)
  | _ => none
noncomputable def E_L5lives : Env := mkS [(32, RMake), (21, RRound), (65, RShow)] [] []
theorem run_L5lives  : AEnds E_L5lives (finW Try.prog Try.f31.results) 0 [.code (Try.f31.body.getD .skip)] (startA Try.f31 [] [] []) (.bool true) := by
  simp only [Try.f31, Option.getD_some, startA]
  simp (maxSteps := 4000000) (disch := (first | with_reducible rfl | assumption | with_reducible exact WB_NB _ _ | (with_reducible refine nb_le ?_; omega) | (with_reducible refine nb16_le ?_; omega) | omega | (simp only [List.length_append, List.length_map, List.length_cons, List.length_nil, List.length_set, List.length_replicate, List.length_take, List.size_toArray]; omega))) [E_L5lives, roundQ, live1.1, live1.2, live2.1, live2.2, IVal_trueN, show_live]
theorem sL5lives : GoodS (31, L5lives) := by
  intro xs r h
  simp only at h
  unfold L5lives at h
  split at h
  · skip
    cases h
    exact okW_ends (mkS_ok (alls_cons sRMake (alls_cons sRRound (alls_cons sRShow alls_nil)))) mixed Try.func31 rfl (by kernel_rfl : Fits Try.prog E_L5lives.ref E_L5lives.dep Try.f31 = true) (run_L5lives )
  · cases h
attribute [simp] L5lives
end Go.Proofs.Ytdaggnflamacgaa.ZRat
namespace Go.Proofs.Ytdaggnflamacgaa.ZRat
open Go.RowKit Go.Proofs.Ytdaggnflamacgaa.Wd
open Go Go.Proofs.Ytdaggnflamacgaa.Ab Go.Proofs Go.Proofs.Ytdaggnflamacgaa.Num Go.Proofs.Ytdaggnflamacgaa.ZRatP
set_option linter.unusedSimpArgs false
set_option linter.unusedVariables false
set_option maxHeartbeats 8000000
set_option maxRecDepth 100000
theorem addneg (p q : Rat) : p + -q = p - q := (Rat.sub_eq_add_neg p q).symm
noncomputable def E_RatAdds : Env := mkS [(18, L5short), (19, FOf), (41, RAdd), (42, FAdd), (33, FSame), (43, RSub), (23, FSub), (44, RNeg), (29, FNeg), (45, RNorm), (31, L5lives)] [] [(2, [([], [], false), ([], [], false), ([], [], false), ([], [], false), ([], [], false), ([], [], false), ([0, 1], [], false), ([0, 1], [], false)])]
theorem run_RatAdds (s0 : Bool) (l0 m0 : List Int) (w0 : WB 4294967296 l0) (v0 : WB 4294967296 m0) (s1 : Bool) (l1 m1 : List Int) (w1 : WB 4294967296 l1) (v1 : WB 4294967296 m1) : AEnds E_RatAdds (finW Try.prog Try.f6.results) 0 [.code (Try.f6.body.getD .skip)] (startA Try.f6 [.agg [.bool s0, rowI .u32 l0, rowI .u32 m0], .agg [.bool s1, rowI .u32 l1, rowI .u32 m1]] [] []) (.bool true) := by
  have wz0 := WB_cut w0 6
  have wd0 := WB_cut v0 6
  have bz0 := cut_le 6 l0
  have bd0 := cut_le 6 m0
  haveI := SzI.val (neg := s0) wz0 bz0
  haveI := SzN.val wd0 bd0
  have hD0 := rD_pos (VB 4294967296 (cut 6 m0))
  have hE0 := canonE (IVal s0 (cut 6 l0)) (VB 4294967296 (cut 6 m0))
  have hN0 := rD_ne (VB 4294967296 (cut 6 m0))
  have wz1 := WB_cut w1 6
  have wd1 := WB_cut v1 6
  have bz1 := cut_le 6 l1
  have bd1 := cut_le 6 m1
  haveI := SzI.val (neg := s1) wz1 bz1
  haveI := SzN.val wd1 bd1
  have hD1 := rD_pos (VB 4294967296 (cut 6 m1))
  have hE1 := canonE (IVal s1 (cut 6 l1)) (VB 4294967296 (cut 6 m1))
  have hN1 := rD_ne (VB 4294967296 (cut 6 m1))
  simp only [Try.f6, Option.getD_some, startA]
  simp (maxSteps := 4000000) (disch := (first | with_reducible rfl | assumption | with_reducible exact WB_NB _ _ | (with_reducible refine nb_le ?_; omega) | (with_reducible refine nb16_le ?_; omega) | omega | (simp only [List.length_append, List.length_map, List.length_cons, List.length_nil, List.length_set, List.length_replicate, List.length_take, List.size_toArray]; omega))) [E_RatAdds, hE0, hE1, hN0, hN1, addE, addneg, negE, Int.mul_eq_zero, -Int.sign_mul, -Int.sign_neg, -Int.natAbs_neg]
theorem law_RatAdds (s0 : Bool) (l0 m0 : List Int) (w0 : WB 4294967296 l0) (v0 : WB 4294967296 m0) (s1 : Bool) (l1 m1 : List Int) (w1 : WB 4294967296 l1) (v1 : WB 4294967296 m1) : OkV Try.prog 6 [.agg [.bool s0, rowI .u32 l0, rowI .u32 m0], .agg [.bool s1, rowI .u32 l1, rowI .u32 m1]] (.bool true) :=
  okW_ends (mkS_ok (alls_cons sL5short (alls_cons sFOf (alls_cons sRAdd (alls_cons sFAdd (alls_cons sFSame (alls_cons sRSub (alls_cons sFSub (alls_cons sRNeg (alls_cons sFNeg (alls_cons sRNorm (alls_cons sL5lives alls_nil)))))))))))) mixed Try.func6 rfl (by kernel_rfl : Fits Try.prog E_RatAdds.ref E_RatAdds.dep Try.f6 = true) (run_RatAdds s0 l0 m0 w0 v0 s1 l1 m1 w1 v1)
end Go.Proofs.Ytdaggnflamacgaa.ZRat
