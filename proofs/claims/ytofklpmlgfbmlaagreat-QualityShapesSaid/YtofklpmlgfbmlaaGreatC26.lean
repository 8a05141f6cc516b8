/- Walks by the abstract run: a quad's number. -/
import Derived.Test.YtofklpmlgfbmlaaGreatC25
import Derived.Test.YtofklpmlgfbmlaaGreatC8
set_option linter.unusedVariables false
set_option linter.unusedSimpArgs false
namespace Go.Proofs.YtofklpmlgfbmlaaGreat.ZRat
open Go.RowKit Go.Proofs.YtofklpmlgfbmlaaGreat.Wd
open Go Go.Proofs.YtofklpmlgfbmlaaGreat.Ab Go.Proofs Go.Proofs.YtofklpmlgfbmlaaGreat.Num Go.Proofs.YtofklpmlgfbmlaaGreat.ZRatP
set_option maxHeartbeats 8000000
set_option maxRecDepth 100000
noncomputable def DTrm : List AV → Option AV
  | [x] => (unI .i64 x).bind fun l => open Classical in if WB 65536 l ∧ l.length < 1000000 then some (digA (VB 65536 l)) else none
  | _ => none
theorem sDTrm : GoodS (116, DTrm) := by
  intro xs r h
  simp only at h
  unfold DTrm at h
  split at h
  · obtain ⟨l, h0, h⟩ := Option.bind_eq_some_iff.1 h
    split at h
    · rename_i hc
      cases h
      obtain rfl := unI_eq h0
      have p := ev_pick (fun k r h => zelligeref03_Trim.mono _ k r h) (RTrim_f l hc.1 (by omega))
      refine .inl (good116 _ _ ?_)
      simp only [SV, SV116, unI_rowI, Option.bind_some]
      rw [p]
      rfl
    · cases h
  · cases h
noncomputable def ZMk1 : List AV → Option AV
  | [x, y] => (unN .i64 x).bind fun s => (digD 1000000 y).bind fun n => if s = 1 ∨ s = -1 then some (rintA (s * n)) else none
  | _ => none
theorem sZMk1 : GoodS (78, ZMk1) := by
  intro xs r h
  simp only at h
  unfold ZMk1 at h
  split at h
  · obtain ⟨s, h0, h⟩ := Option.bind_eq_some_iff.1 h
    obtain ⟨n, h1, h⟩ := Option.bind_eq_some_iff.1 h
    split at h
    · rename_i hc
      cases h
      obtain rfl := unN_eq h0
      obtain ⟨rfl, hb⟩ := digD_out h1
      refine .inl (good78 _ _ ?_)
      have ha : (s * n).natAbs = n := by rcases hc with rfl | rfl <;> omega
      simp only [SV, SV78, unN, if_true, Option.bind_some, digA, unI_rowI, zelligeref04_make1.f, rintA, ha]
      by_cases hn : n = 0
      · subst hn; simp [NB_zero]
      · have h2 : ¬ ((NB 65536 n).length : Int) = 0 := by rw [Int.natCast_eq_zero, NB_len0 (by omega)]; exact hn
        rw [if_neg h2]
        have h3 : (s * n).sign = s := by
          rcases hc with rfl | rfl
          · rw [Int.one_mul]; exact Int.sign_eq_one_of_pos (by omega)
          · rw [Int.neg_one_mul]; exact Int.sign_eq_neg_one_of_neg (by omega)
        simp [h3]
    · cases h
  · cases h
attribute [simp] DTrm ZMk1
/-- Digits to the base 65536. -/
def dgW : Nat → Int → List Int
  | 0, _ => []
  | k + 1, z => z % 65536 :: dgW k (z / 65536)
theorem dgW_len : ∀ (k : Nat) (z : Int), (dgW k z).length = k
  | 0, _ => rfl
  | k + 1, z => by simp [dgW, dgW_len k]
theorem dgW_get : ∀ (k : Nat) (z : Int) (i : Nat), i < k → (dgW k z)[i]? = some (z / 65536 ^ i % 65536)
  | 0, _, i, h => by omega
  | k + 1, z, 0, _ => by simp [dgW]
  | k + 1, z, i + 1, h => by
    simp only [dgW, List.getElem?_cons_succ]
    rw [dgW_get k _ i (by omega), Int.pow_succ, Int.mul_comm, Int.ediv_ediv_of_nonneg (by omega)]
theorem dgW_WB : ∀ (k : Nat) (z : Int), WB 65536 (dgW k z)
  | 0, _ => WB_nil _
  | k + 1, z => WB_cons.2 ⟨by omega, dgW_WB k _⟩
theorem dgW_VB : ∀ (k : Nat) (z : Int), 0 ≤ z → z < 65536 ^ k → (VB 65536 (dgW k z) : Int) = z
  | 0, z, h, h1 => by simp at h1; simp [dgW, VB]; omega
  | k + 1, z, h, h1 => by
    simp only [dgW, VB]
    have := dgW_VB k (z / 65536) (by omega) (by rw [Int.pow_succ] at h1; exact Int.ediv_lt_of_lt_mul (by omega) h1)
    omega
theorem dig_out (n : Nat) (h : (NB 65536 n).length ≤ 16) : digD 1000000 (.row (NB 65536 n).length ((NB 65536 n).map (.int .i64))) = some n := digD_row rfl (by omega)
theorem pair_of (z : Int) (j : Nat) : z / 256 ^ (2 * j) % 256 + 256 * (z / 256 ^ (2 * j + 1) % 256) = z / 65536 ^ j % 65536 := by
  have e : (256 : Int) ^ (2 * j) = 65536 ^ j := by rw [Int.pow_mul]; rfl
  rw [Int.pow_succ, ← Int.ediv_ediv_of_nonneg (Int.le_of_lt (Int.pow_pos (by omega))), e]
  omega
theorem quad_step (z : Int) (j : Nat) (hj : j < 16) : Aside0 (wrap64 (2 * (j : Int) + 1) = 2 * (j : Int) + 1 ∧ wrap64 (2 * (j : Int) + 2) = 2 * (j : Int) + 2 ∧ wrap64 (256 * (z / 256 ^ (2 * j + 1) % 256)) = 256 * (z / 256 ^ (2 * j + 1) % 256) ∧ wrap64 (z / 256 ^ (2 * j) % 256 + 256 * (z / 256 ^ (2 * j + 1) % 256)) = z / 65536 ^ j % 65536) := by
  refine ⟨w64in _ (by omega) (by omega), w64in _ (by omega) (by omega), w64in _ (by omega) (by omega), ?_⟩
  rw [w64in _ (by omega) (by omega), pair_of]
noncomputable def ZQuad : List AV → Option AV
  | [x0] => (quadD x0).bind fun a0 => some (rintA a0)
  | _ => none
noncomputable def E_ZQuad : Env := mkS [(127, BOf), (128, BBelow), (129, BNeg), (116, DTrm), (78, ZMk1)] [(6, [2, 3, 4, 5, 6])] [(8, [([], [], false), ([], [], false), ([], [], false), ([], [], false), ([], [], false), ([], [], false), ([], [], false), ([], [], false), ([], [], false), ([], [], false), ([], [], false), ([], [], false), ([], [], false), ([0], [], false), ([], [], false)])]
theorem run_ZQuad (a0 : Int) (b0 : -57896044618658097711785492504343953926634992332820282019728792003956564819968 ≤ a0 ∧ a0 < 57896044618658097711785492504343953926634992332820282019728792003956564819968) : AEnds E_ZQuad (finW Tryz.prog Tryz.f75.results) 0 [.code (Tryz.f75.body.getD .skip)] (startA Tryz.f75 [quadA a0] [] []) (rintA a0) := by
  simp only [Tryz.f75, Option.getD_some, startA]
  have hA : ∀ a, dgA a = .row 32 ((dgN 32 a).map (AV.int .i64)) := fun a => by simp only [dgA, rowI, dgN_len]
  have hD : dgD (.row 32 ((dgN 32 a0).map (AV.int .i64))) = some (a0 % 115792089237316195423570985008687907853269984665640564039457584007913129639936) := by
    rw [← hA, ← dgD_A _ (show 0 ≤ a0 % 115792089237316195423570985008687907853269984665640564039457584007913129639936 ∧ a0 % 115792089237316195423570985008687907853269984665640564039457584007913129639936 < 115792089237316195423570985008687907853269984665640564039457584007913129639936 by omega)]
    unfold dgA
    rw [show dgN 32 (a0 % 115792089237316195423570985008687907853269984665640564039457584007913129639936) = dgN 32 a0 from dgN_mod 32 a0]
  have hz : quadD (.agg (quadL a0)) = some a0 := quadD_A a0 b0
  rw [show quadA a0 = .agg (quadL a0) from rfl]
  obtain ⟨p, q, r, s, e⟩ : ∃ p q r s : Int, quadL a0 = [.int .u64 p, .int .u64 q, .int .u64 r, .int .u64 s] := ⟨_, _, _, _, rfl⟩
  rw [e] at hz
  rw [e]
  clear e
  by_cases hn : a0 < 0
  · have h1 : 57896044618658097711785492504343953926634992332820282019728792003956564819968 ≤ a0 % 115792089237316195423570985008687907853269984665640564039457584007913129639936 := by omega
    have h2 : (-(a0 % 115792089237316195423570985008687907853269984665640564039457584007913129639936)) % 115792089237316195423570985008687907853269984665640564039457584007913129639936 = -a0 := by omega
    have h1 := Aside0.mk h1
    have h2 := Aside0.mk h2
    have hD := Aside0.mk hD
    have hm : 0 ≤ a0 % 115792089237316195423570985008687907853269984665640564039457584007913129639936 ∧ a0 % 115792089237316195423570985008687907853269984665640564039457584007913129639936 < 115792089237316195423570985008687907853269984665640564039457584007913129639936 := by omega
    have hv : (VB 65536 (dgW 16 (-a0)) : Int) = (-a0) := dgW_VB 16 _ (by omega) (by omega)
    have hwb := dgW_WB 16 (-a0)
    have lD := dgW_len 16 (-a0)
    have hq : (NB 65536 (VB 65536 (dgW 16 (-a0)))).length ≤ 16 := by have := NBV_len (b := 65536) (by omega) hwb; omega
    have hd := dig_out (VB 65536 (dgW 16 (-a0))) hq
    have hab : a0.natAbs = VB 65536 (dgW 16 (-a0)) := by omega
    have hsg : (-1) * ((VB 65536 (dgW 16 (-a0)) : Nat) : Int) = a0 := by rw [hv]; omega
    have hU : unC .i64 ((dgW 16 (-a0)).map (AV.int .i64)) = some (dgW 16 (-a0)) := unC_map _ _
    have hs := quad_step (-a0)
    have xL : ∀ i, i < 32 → ((dgN 32 (-a0)).map (AV.int .i64))[i]? = some (.int .i64 ((-a0) / 256 ^ i % 256)) := fun i hi => by rw [List.getElem?_map, dgN_get 32 _ _ hi, Option.map_some]
    have lL : ((dgN 32 (-a0)).map (AV.int .i64)).length = 32 := by rw [List.length_map, dgN_len]
    have xW : ∀ i, i < 16 → ((dgW 16 (-a0)).map (AV.int .i64))[i]? = some (.int .i64 ((-a0) / 65536 ^ i % 65536)) := fun i hi => by rw [List.getElem?_map, dgW_get 16 _ _ hi, Option.map_some]
    have lW : ((dgW 16 (-a0)).map (AV.int .i64)).length = 16 := by rw [List.length_map, dgW_len]
    have hab := Aside0.mk hab
    have hsg := Aside0.mk hsg
    simp (maxSteps := 4000000) (disch := (first | with_reducible rfl | assumption | with_reducible exact WB_NB _ _ | (with_reducible refine nb_le ?_; omega) | (with_reducible refine nb16_le ?_; omega) | omega | (simp only [List.length_append, List.length_map, List.length_cons, List.length_nil, List.length_set, List.length_replicate, List.length_take, List.size_toArray]; omega))) [E_ZQuad, hz, hD.out, h1.out, h2.out, dgA, dgN_len]
    clear hv
    generalize (dgN 32 (-a0)).map (AV.int .i64) = L at *
    generalize hWD : (dgW 16 (-a0)).map (AV.int .i64) = W at *
    let C : Nat → AS := fun i => ⟨[.any, .any, .ptr 0 0, .row 32 L, .int .i64 ((-1)), .own 1 0 i 1, .int .i64 (2 * (i : Int)), .any, .any, .any, .any, .any, .any, .any, .any, .any, .any, .any, .any, .any, .any, .any, .any, .any, .any, .any, .any, .any, .any, .any, .any, .any, .any, .any, .any, .any], [.obj [.int .i64 0, .nil], .arr (W.take i)], [false, false]⟩
    refine loop_up C 16 ?_ (fun i hi IH => ?_) ?_
    · simp only [E_ZQuad, firstR, mkS_keep, keepT, List.find?, Nat.reduceBEq, Option.map_some, Option.getD_some]
      simp (maxSteps := 4000000) (disch := (first | with_reducible rfl | assumption | with_reducible exact WB_NB _ _ | (with_reducible refine nb_le ?_; omega) | (with_reducible refine nb16_le ?_; omega) | omega | (simp only [List.length_append, List.length_map, List.length_cons, List.length_nil, List.length_set, List.length_replicate, List.length_take, List.size_toArray]; omega))) [E_ZQuad, C]
    · have F := hs i hi
      have g1 := getE (xL (2 * i) (by omega))
      have g2 := getE (xL (2 * i + 1) (by omega))
      have g3 := xL (2 * i) (by omega)
      have g4 := xL (2 * i + 1) (by omega)
      have hW := xW i hi
      have hT : W.take (i + 1) = W.take i ++ [.int .i64 ((-a0) / 65536 ^ i % 65536)] := by rw [List.take_add_one, hW]; rfl
      have hl : (W.take i).length = i := by rw [List.length_take]; omega
      simp only [C] at IH ⊢
      rw [hT] at IH
      generalize W.take i = X at *
      have t1 : (2 * (i : Int)).toNat = 2 * i := by omega
      have t2 : (2 * (i : Int) + 1).toNat = 2 * i + 1 := by omega
      clear hT hW xW xL hs hab hsg lW lD hq hwb hd hU hWD
      simp (maxSteps := 4000000) (disch := (first | with_reducible rfl | assumption | with_reducible exact WB_NB _ _ | (with_reducible refine nb_le ?_; omega) | (with_reducible refine nb16_le ?_; omega) | omega | (simp only [List.length_append, List.length_map, List.length_cons, List.length_nil, List.length_set, List.length_replicate, List.length_take, List.size_toArray]; omega))) [E_ZQuad, hl, lL, t1, t2, g1, g2, g3, g4, F.out]
      rw [show 2 * ((i + 1 : Nat) : Int) = 2 * (i : Int) + 2 by omega] at IH
      refine again_of ?_ IH
      simp only [E_ZQuad, firstR, mkS_keep, keepT, List.find?, Nat.reduceBEq, Option.map_some, Option.getD_some]
      simp (maxSteps := 4000000) (disch := (first | with_reducible rfl | assumption | with_reducible exact WB_NB _ _ | (with_reducible refine nb_le ?_; omega) | (with_reducible refine nb16_le ?_; omega) | omega | (simp only [List.length_append, List.length_map, List.length_cons, List.length_nil, List.length_set, List.length_replicate, List.length_take, List.size_toArray]; omega))) [E_ZQuad]
    · simp only [C]
      have ht : W.take 16 = W := List.take_of_length_le (by omega)
      simp (maxSteps := 4000000) (disch := (first | with_reducible rfl | assumption | with_reducible exact WB_NB _ _ | (with_reducible refine nb_le ?_; omega) | (with_reducible refine nb16_le ?_; omega) | omega | (simp only [List.length_append, List.length_map, List.length_cons, List.length_nil, List.length_set, List.length_replicate, List.length_take, List.size_toArray]; omega))) [E_ZQuad, ht, lW, hU, hwb, lD, hd, hab.out]
      have hg := congrArg Int.sign hsg.out
      simpa [Int.sign_neg] using hg
  · have hpos : (0 : Int) ≤ a0 := by omega
    have h1 : ¬ 57896044618658097711785492504343953926634992332820282019728792003956564819968 ≤ a0 % 115792089237316195423570985008687907853269984665640564039457584007913129639936 := by omega
    have h1 := Aside0.mk h1
    have hD := Aside0.mk hD
    have hm : 0 ≤ a0 % 115792089237316195423570985008687907853269984665640564039457584007913129639936 ∧ a0 % 115792089237316195423570985008687907853269984665640564039457584007913129639936 < 115792089237316195423570985008687907853269984665640564039457584007913129639936 := by omega
    have hv : (VB 65536 (dgW 16 a0) : Int) = a0 := dgW_VB 16 _ (by omega) (by omega)
    have hwb := dgW_WB 16 a0
    have lD := dgW_len 16 a0
    have hq : (NB 65536 (VB 65536 (dgW 16 a0))).length ≤ 16 := by have := NBV_len (b := 65536) (by omega) hwb; omega
    have hd := dig_out (VB 65536 (dgW 16 a0)) hq
    have hab : a0.natAbs = VB 65536 (dgW 16 a0) := by omega
    have hsg : 1 * ((VB 65536 (dgW 16 a0) : Nat) : Int) = a0 := by rw [hv]; omega
    have hU : unC .i64 ((dgW 16 a0).map (AV.int .i64)) = some (dgW 16 a0) := unC_map _ _
    have hs := quad_step a0
    have xL : ∀ i, i < 32 → ((dgN 32 a0).map (AV.int .i64))[i]? = some (.int .i64 (a0 / 256 ^ i % 256)) := fun i hi => by rw [List.getElem?_map, dgN_get 32 _ _ hi, Option.map_some]
    have lL : ((dgN 32 a0).map (AV.int .i64)).length = 32 := by rw [List.length_map, dgN_len]
    have xW : ∀ i, i < 16 → ((dgW 16 a0).map (AV.int .i64))[i]? = some (.int .i64 (a0 / 65536 ^ i % 65536)) := fun i hi => by rw [List.getElem?_map, dgW_get 16 _ _ hi, Option.map_some]
    have lW : ((dgW 16 a0).map (AV.int .i64)).length = 16 := by rw [List.length_map, dgW_len]
    have hab := Aside0.mk hab
    have hsg := Aside0.mk hsg
    simp (maxSteps := 4000000) (disch := (first | with_reducible rfl | assumption | with_reducible exact WB_NB _ _ | (with_reducible refine nb_le ?_; omega) | (with_reducible refine nb16_le ?_; omega) | omega | (simp only [List.length_append, List.length_map, List.length_cons, List.length_nil, List.length_set, List.length_replicate, List.length_take, List.size_toArray]; omega))) [E_ZQuad, hz, hD.out, h1.out, dgA, dgN_len]
    clear hv
    generalize (dgN 32 a0).map (AV.int .i64) = L at *
    generalize hWD : (dgW 16 a0).map (AV.int .i64) = W at *
    let C : Nat → AS := fun i => ⟨[.any, .any, .ptr 0 0, .row 32 L, .int .i64 (1), .own 1 0 i 1, .int .i64 (2 * (i : Int)), .any, .any, .any, .any, .any, .any, .any, .any, .any, .any, .any, .any, .any, .any, .any, .any, .any, .any, .any, .any, .any, .any, .any, .any, .any, .any, .any, .any, .any], [.obj [.int .i64 0, .nil], .arr (W.take i)], [false, false]⟩
    refine loop_up C 16 ?_ (fun i hi IH => ?_) ?_
    · simp only [E_ZQuad, firstR, mkS_keep, keepT, List.find?, Nat.reduceBEq, Option.map_some, Option.getD_some]
      simp (maxSteps := 4000000) (disch := (first | with_reducible rfl | assumption | with_reducible exact WB_NB _ _ | (with_reducible refine nb_le ?_; omega) | (with_reducible refine nb16_le ?_; omega) | omega | (simp only [List.length_append, List.length_map, List.length_cons, List.length_nil, List.length_set, List.length_replicate, List.length_take, List.size_toArray]; omega))) [E_ZQuad, C]
    · have F := hs i hi
      have g1 := getE (xL (2 * i) (by omega))
      have g2 := getE (xL (2 * i + 1) (by omega))
      have g3 := xL (2 * i) (by omega)
      have g4 := xL (2 * i + 1) (by omega)
      have hW := xW i hi
      have hT : W.take (i + 1) = W.take i ++ [.int .i64 (a0 / 65536 ^ i % 65536)] := by rw [List.take_add_one, hW]; rfl
      have hl : (W.take i).length = i := by rw [List.length_take]; omega
      simp only [C] at IH ⊢
      rw [hT] at IH
      generalize W.take i = X at *
      have t1 : (2 * (i : Int)).toNat = 2 * i := by omega
      have t2 : (2 * (i : Int) + 1).toNat = 2 * i + 1 := by omega
      clear hT hW xW xL hs hab hsg lW lD hq hwb hd hU hWD
      simp (maxSteps := 4000000) (disch := (first | with_reducible rfl | assumption | with_reducible exact WB_NB _ _ | (with_reducible refine nb_le ?_; omega) | (with_reducible refine nb16_le ?_; omega) | omega | (simp only [List.length_append, List.length_map, List.length_cons, List.length_nil, List.length_set, List.length_replicate, List.length_take, List.size_toArray]; omega))) [E_ZQuad, hl, lL, t1, t2, g1, g2, g3, g4, F.out]
      rw [show 2 * ((i + 1 : Nat) : Int) = 2 * (i : Int) + 2 by omega] at IH
      refine again_of ?_ IH
      simp only [E_ZQuad, firstR, mkS_keep, keepT, List.find?, Nat.reduceBEq, Option.map_some, Option.getD_some]
      simp (maxSteps := 4000000) (disch := (first | with_reducible rfl | assumption | with_reducible exact WB_NB _ _ | (with_reducible refine nb_le ?_; omega) | (with_reducible refine nb16_le ?_; omega) | omega | (simp only [List.length_append, List.length_map, List.length_cons, List.length_nil, List.length_set, List.length_replicate, List.length_take, List.size_toArray]; omega))) [E_ZQuad]
    · simp only [C]
      have ht : W.take 16 = W := List.take_of_length_le (by omega)
      simp (maxSteps := 4000000) (disch := (first | with_reducible rfl | assumption | with_reducible exact WB_NB _ _ | (with_reducible refine nb_le ?_; omega) | (with_reducible refine nb16_le ?_; omega) | omega | (simp only [List.length_append, List.length_map, List.length_cons, List.length_nil, List.length_set, List.length_replicate, List.length_take, List.size_toArray]; omega))) [E_ZQuad, ht, lW, hU, hwb, lD, hd, hab.out]
      have hg := congrArg Int.sign hsg.out
      simpa [Int.sign_neg] using hg
theorem sZQuad : GoodS (75, ZQuad) := by
  intro xs r h
  simp only at h
  unfold ZQuad at h
  split at h
  · obtain ⟨a0, h0, h⟩ := Option.bind_eq_some_iff.1 h
    cases h
    obtain ⟨rfl, b0⟩ := quadD_out h0
    exact .inl <| okW_ends (mkS_ok (alls_cons sBOf (alls_cons sBBelow (alls_cons sBNeg (alls_cons sDTrm (alls_cons sZMk1 alls_nil)))))) mixed Tryz.func75 rfl (by kernel_rfl : Fits Tryz.prog E_ZQuad.ref E_ZQuad.dep Tryz.f75 = true) (run_ZQuad _ b0)
  · cases h
attribute [simp] ZQuad
end Go.Proofs.YtofklpmlgfbmlaaGreat.ZRat
