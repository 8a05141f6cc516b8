/- Walks by the abstract run: digits of 256 bits. -/
import Derived.Test.YtofklpmlgfbmlaaGreatC10
import Derived.Test.YtofklpmlgfbmlaaGreatC8
set_option linter.unusedVariables false
set_option linter.unusedSimpArgs false
namespace Go.Proofs.YtofklpmlgfbmlaaGreat.ZRat
open Go.RowKit Go.Proofs.YtofklpmlgfbmlaaGreat.Wd
open Go Go.Proofs.YtofklpmlgfbmlaaGreat.Ab Go.Proofs Go.Proofs.YtofklpmlgfbmlaaGreat.Num Go.Proofs.YtofklpmlgfbmlaaGreat.ZRatP
set_option maxHeartbeats 8000000
set_option maxRecDepth 100000
theorem wr0 : wrap64 0 = 0 := by decide +kernel
theorem wr32 : wrap64 32 = 32 := by decide +kernel
theorem uwr0 : IntKind.u64.wrap 0 = 0 := by decide +kernel
attribute [simp] wr0 wr32 uwr0
end Go.Proofs.YtofklpmlgfbmlaaGreat.ZRat
namespace Go.Proofs.YtofklpmlgfbmlaaGreat.ZRat
open Go.RowKit Go.Proofs.YtofklpmlgfbmlaaGreat.Wd
open Go Go.Proofs.YtofklpmlgfbmlaaGreat.Ab Go.Proofs Go.Proofs.YtofklpmlgfbmlaaGreat.Num Go.Proofs.YtofklpmlgfbmlaaGreat.ZRatP
set_option maxHeartbeats 8000000
set_option maxRecDepth 100000
/-- A number's digits to the base 256. -/
def dgN : Nat → Int → List Int
  | 0, _ => []
  | k + 1, z => z % 256 :: dgN k (z / 256)
def vb256 : List Int → Int
  | [] => 0
  | d :: l => d + 256 * vb256 l
theorem emod_mul_eq (z c : Int) : z % (256 * c) = z % 256 + 256 * (z / 256 % c) := by
  rw [Int.emod_def, Int.emod_def z 256, Int.emod_def (z / 256) c, ← Int.ediv_ediv_of_nonneg (by omega)]
  grind
theorem vb_dgN : ∀ (k : Nat) (z : Int), vb256 (dgN k z) = z % 256 ^ k
  | 0, z => by simp [dgN, vb256, Int.emod_one]
  | k + 1, z => by
    simp only [dgN, vb256, vb_dgN k]
    have e : (256 : Int) ^ (k + 1) = 256 * 256 ^ k := by rw [Int.pow_succ, Int.mul_comm]
    have h : 0 < (256 : Int) ^ k := Int.pow_pos (by omega)
    rw [e, emod_mul_eq]
theorem dgN_len : ∀ (k : Nat) (z : Int), (dgN k z).length = k
  | 0, _ => rfl
  | k + 1, z => by simp [dgN, dgN_len k]
theorem dgN_get : ∀ (k : Nat) (z : Int) (i : Nat), i < k → (dgN k z)[i]? = some (z / 256 ^ i % 256)
  | 0, _, i, h => by omega
  | k + 1, z, 0, _ => by simp [dgN]
  | k + 1, z, i + 1, h => by
    simp only [dgN, List.getElem?_cons_succ]
    rw [dgN_get k _ i (by omega), Int.pow_succ, Int.mul_comm, Int.ediv_ediv_of_nonneg (by omega)]
theorem dgN_mod (k : Nat) : ∀ (z : Int), dgN k (z % 256 ^ k) = dgN k z := by
  induction k with
  | zero => intro z; rfl
  | succ k ih =>
    intro z
    have e : (256 : Int) ^ (k + 1) = 256 * 256 ^ k := by rw [Int.pow_succ, Int.mul_comm]
    simp only [dgN]
    rw [e, emod_mul_eq, ← ih (z / 256)]
    have h1 : (z % 256 + 256 * (z / 256 % 256 ^ k)) % 256 = z % 256 := by omega
    have h2 : (z % 256 + 256 * (z / 256 % 256 ^ k)) / 256 = z / 256 % 256 ^ k := by omega
    rw [h1, h2]
def dgA (z : Int) : AV := rowI .i64 (dgN 32 z)
/-- Digits' number. -/
def dgD (x : AV) : Option Int := (unI .i64 x).bind fun l => if dgN 32 (vb256 l) = l then some (vb256 l) else none
theorem dgD_out {x : AV} {z : Int} (h : dgD x = some z) : x = dgA z ∧ (0 ≤ z ∧ z < 115792089237316195423570985008687907853269984665640564039457584007913129639936) := by
  obtain ⟨l, hl, h⟩ := Option.bind_eq_some_iff.1 h
  split at h
  · rename_i e
    cases h
    obtain rfl := unI_eq hl
    have := vb_dgN 32 (vb256 l)
    rw [e] at this
    refine ⟨by unfold dgA; rw [e], ?_⟩
    rw [show (256 : Int) ^ 32 = 115792089237316195423570985008687907853269984665640564039457584007913129639936 from by decide +kernel] at this
    omega
  · cases h
theorem dgD_A (z : Int) (hz : 0 ≤ z ∧ z < 115792089237316195423570985008687907853269984665640564039457584007913129639936) : dgD (dgA z) = some z := by
  have hv := vb_dgN 32 z
  rw [show (256 : Int) ^ 32 = 115792089237316195423570985008687907853269984665640564039457584007913129639936 from by decide +kernel, Int.emod_eq_of_lt hz.1 hz.2] at hv
  unfold dgD dgA
  rw [unI_rowI, Option.bind_some, hv, if_pos rfl]
theorem and255 {x : Int} (h : 0 ≤ x) (h1 : x < 18446744073709551616) : Go.bits .and .u64 x 255 = x % 256 := by
  obtain ⟨x, rfl⟩ := Int.eq_ofNat_of_zero_le h
  have := (bits_nat .u64 64 (by decide) (fun n h0 h1 => u64in n h0 (by omega)) x 255 (by omega) (by omega)).1
  rw [show ((255 : Nat) : Int) = 255 from rfl] at this
  rw [this, show x &&& 255 = x % 256 from Nat.and_two_pow_sub_one_eq_mod x 8]
  rfl
theorem shr_n {x : Int} {n : Nat} (h : n < 64) : shr .u64 x (n : Int) = x / 2 ^ n := by
  unfold shr
  rw [show min (n : Int).toNat IntKind.u64.bits = n from by rw [Int.toNat_natCast, Nat.min_eq_left (by decide +revert : n ≤ IntKind.u64.bits)]]
theorem byte_of (x : Int) (b : Nat) (hb : b < 8) : x % 18446744073709551616 / 2 ^ (8 * b) % 256 = x / 256 ^ b % 256 := by
  match b, hb with
  | 0, _ | 1, _ | 2, _ | 3, _ | 4, _ | 5, _ | 6, _ | 7, _ => simp <;> omega
def quadL (a : Int) : List AV := [.int .u64 (a % 18446744073709551616), .int .u64 (a / 18446744073709551616 % 18446744073709551616), .int .u64 (a / 340282366920938463463374607431768211456 % 18446744073709551616), .int .u64 (a / 6277101735386680763835789423207666416102355444464034512896 % 18446744073709551616)]
theorem quadL_get (a : Int) (j : Nat) (hj : j < 4) : (quadL a)[j]? = some (.int .u64 (a / 256 ^ (8 * j) % 18446744073709551616)) := by
  match j, hj with
  | 0, _ | 1, _ | 2, _ | 3, _ => simp [quadL]
/-- What a round reads. -/
theorem of_step (a : Int) (i : Nat) (hi : i < 32) : ∃ (j b : Nat) (w : Int), j < 4 ∧ (quadL a)[j]? = some (.int .u64 w) ∧ (∀ h, (quadL a)[j]'h = .int .u64 w) ∧ Aside0 (wrap64 ((i : Int) + 1) = (i : Int) + 1 ∧ wrap64 ((i : Int) / 8) = j ∧ (i : Int).tmod 8 = b ∧ wrap64 (8 * (b : Int)) = 8 * b ∧ IntKind.u64.wrap (8 * (b : Int)) = 8 * b ∧ 0 ≤ 8 * (b : Int) ∧ Go.bits .and .u64 (shr .u64 w (8 * (b : Int))) 255 = a / 256 ^ i % 256 ∧ wrap64 (a / 256 ^ i % 256) = a / 256 ^ i % 256) := by
  have g := quadL_get a (i / 8) (by omega)
  have hw : 0 ≤ a / 256 ^ (8 * (i / 8)) % 18446744073709551616 ∧ a / 256 ^ (8 * (i / 8)) % 18446744073709551616 < 18446744073709551616 := by omega
  have hd : a / 256 ^ (8 * (i / 8)) % 18446744073709551616 / 2 ^ (8 * (i % 8)) % 256 = a / 256 ^ i % 256 := by
    rw [byte_of _ _ (Nat.mod_lt _ (by omega)), Int.ediv_ediv_of_nonneg (Int.le_of_lt (Int.pow_pos (by omega))), ← Int.pow_add, Nat.div_add_mod]
  generalize a / 256 ^ (8 * (i / 8)) % 18446744073709551616 = w at *
  refine ⟨i / 8, i % 8, w, by omega, g, fun h => ?_, ⟨?_, ?_, ?_, ?_, ?_, by omega, ?_, ?_⟩⟩
  · have := List.getElem?_eq_some_iff.1 g; exact this.2
  · exact w64in _ (by omega) (by omega)
  · rw [w64in _ (by omega) (by omega)]; omega
  · rw [Int.tmod_eq_emod_of_nonneg (by omega)]; omega
  · exact w64in _ (by omega) (by omega)
  · exact u64in _ (by omega) (by omega)
  · have e : (8 * ((i % 8 : Nat) : Int)) = ((8 * (i % 8) : Nat) : Int) := by omega
    rw [e, shr_n (by omega), and255 (Int.ediv_nonneg hw.1 (Int.le_of_lt (Int.pow_pos (by omega)))) (Int.lt_of_le_of_lt (Int.ediv_le_self _ hw.1) hw.2), hd]
  · exact w64in _ (by omega) (by omega)
theorem dg_len (D : List AV) (n i : Nat) (c : AV) (hD : D.length = n) (hi : i ≤ n) : (D.take i ++ List.replicate (n - i) c).length = n := by
  rw [List.length_append, List.length_take, List.length_replicate, hD]; omega
theorem mem256 : 256 ≤ maxMem := by decide +kernel
attribute [simp] mem256
theorem pre_set {α : Type} {L : List α} {n i : Nat} {c x : α} (hi : i < n) (hx : L[i]? = some x) : ((L.take i ++ List.replicate (n - i) c).set i x) = L.take (i + 1) ++ List.replicate (n - (i + 1)) c := by
  have hl : (L.take i).length = i := by
    have := (List.getElem?_eq_some_iff.1 hx).1
    rw [List.length_take]; omega
  rw [List.set_append_right _ _ (by omega), hl, Nat.sub_self, show n - i = (n - (i + 1)) + 1 by omega, List.replicate_succ, List.set_cons_zero, List.take_add_one, hx]
  simp
section
variable {E : Env} {R : Type} {rs : Out → AS → Option R} {base : Nat} {k : List Todo} {r : R}
theorem loop_up {a : Code} (C : Nat → AS) (N : Nat) {s : AS} (h0 : canon base (E.keep (firstR a)) s = C 0) (hs : ∀ i, i < N → AEnds E rs base (.code a :: .again a :: k) (C (i + 1)) r → AEnds E rs base (.code a :: .again a :: k) (C i) r) (hN : AEnds E rs base (.code a :: .again a :: k) (C N) r) : AEnds E rs base (.code (.loop a) :: k) s r := by
  refine .loop ?_
  rw [h0]
  have : ∀ j, j ≤ N → AEnds E rs base (.code a :: .again a :: k) (C (N - j)) r := by
    intro j
    induction j with
    | zero => intro _; exact hN
    | succ j ih =>
      intro hj
      refine hs _ (by omega) ?_
      rw [show N - (j + 1) + 1 = N - j by omega]
      exact ih (by omega)
  simpa using this N (Nat.le_refl N)
theorem again_of {a : Code} {s c : AS} (e : canon base (E.keep (firstR a)) s = c) (h : AEnds E rs base (.code a :: .again a :: k) c r) : AEnds E rs base (.again a :: k) s r := .again (e ▸ h)
end
noncomputable def BOf : List AV → Option AV
  | [x0] => (quadD x0).bind fun a0 => some (dgA a0)
  | _ => none
noncomputable def E_BOf : Env := mkS [] [(3, [1, 3, 4])] []
theorem run_BOf (a0 : Int) (b0 : -57896044618658097711785492504343953926634992332820282019728792003956564819968 ≤ a0 ∧ a0 < 57896044618658097711785492504343953926634992332820282019728792003956564819968) : AEnds E_BOf (finW Tryz.prog Tryz.f127.results) 0 [.code (Tryz.f127.body.getD .skip)] (startA Tryz.f127 [quadA a0] [] []) (dgA a0) := by
  simp only [Tryz.f127, Option.getD_some, startA]
  rw [show quadA a0 = .agg (quadL a0) from rfl]
  clear b0
  have h0 : ∃ p q r s : Int, quadL a0 = [.int .u64 p, .int .u64 q, .int .u64 r, .int .u64 s] := ⟨_, _, _, _, rfl⟩
  have hs := of_step a0
  have hx : ∀ i, i < 32 → ((dgN 32 a0).map (AV.int .i64))[i]? = some (.int .i64 (a0 / 256 ^ i % 256)) := fun i hi => by rw [List.getElem?_map, dgN_get 32 _ _ hi, Option.map_some]
  have hlen : ((dgN 32 a0).map (AV.int .i64)).length = 32 := by rw [List.length_map, dgN_len]
  have hA : dgA a0 = .row 32 ((dgN 32 a0).map (AV.int .i64)) := by simp only [dgA, rowI, dgN_len]
  rw [hA]
  generalize (dgN 32 a0).map (AV.int .i64) = D at *
  generalize quadL a0 = Q at *
  obtain ⟨p, q, r, s, rfl⟩ := h0
  simp (maxSteps := 4000000) (disch := (first | with_reducible rfl | assumption | with_reducible exact WB_NB _ _ | (with_reducible refine nb_le ?_; omega) | (with_reducible refine nb16_le ?_; omega) | omega | (simp only [List.length_append, List.length_map, List.length_cons, List.length_nil, List.length_set, List.length_replicate, List.length_take, List.size_toArray]; omega))) [E_BOf]
  let C : Nat → AS := fun i => ⟨[.any, .ptr 0 0, .any, .own 1 0 32 1, .int .i64 i, .any, .any, .any, .any, .any, .any, .any, .any, .any, .any, .any, .any, .any, .any, .any, .any, .any, .any, .any, .any], [.arr [.int .u64 p, .int .u64 q, .int .u64 r, .int .u64 s], .arr (D.take i ++ List.replicate (32 - i) (.int .i64 0))], [false, false]⟩
  refine loop_up C 32 ?_ (fun i hi IH => ?_) ?_
  · simp only [E_BOf, firstR, mkS_keep, keepT, List.find?, Nat.reduceBEq, Option.map_some, Option.getD_some]
    simp (maxSteps := 4000000) (disch := (first | with_reducible rfl | assumption | with_reducible exact WB_NB _ _ | (with_reducible refine nb_le ?_; omega) | (with_reducible refine nb16_le ?_; omega) | omega | (simp only [List.length_append, List.length_map, List.length_cons, List.length_nil, List.length_set, List.length_replicate, List.length_take, List.size_toArray]; omega))) [E_BOf, C]
  · obtain ⟨j, b, w, hj, hw, hw', F⟩ := hs i hi
    have hset := pre_set (c := .int .i64 0) hi (hx i hi)
    have hl := dg_len D 32 i (.int .i64 0) hlen (Nat.le_of_lt hi)
    simp only [C] at IH ⊢
    rw [← hset] at IH
    generalize D.take i ++ List.replicate (32 - i) (.int .i64 0) = X at *
    generalize a0 / 256 ^ i % 256 = dd at *
    clear hs hx hset
    simp (maxSteps := 4000000) (disch := (first | with_reducible rfl | assumption | with_reducible exact WB_NB _ _ | (with_reducible refine nb_le ?_; omega) | (with_reducible refine nb16_le ?_; omega) | omega | (simp only [List.length_append, List.length_map, List.length_cons, List.length_nil, List.length_set, List.length_replicate, List.length_take, List.size_toArray]; omega))) [E_BOf, hl, hw, hw', F.out]
    refine again_of ?_ IH
    simp only [E_BOf, firstR, mkS_keep, keepT, List.find?, Nat.reduceBEq, Option.map_some, Option.getD_some]
    simp (maxSteps := 4000000) (disch := (first | with_reducible rfl | assumption | with_reducible exact WB_NB _ _ | (with_reducible refine nb_le ?_; omega) | (with_reducible refine nb16_le ?_; omega) | omega | (simp only [List.length_append, List.length_map, List.length_cons, List.length_nil, List.length_set, List.length_replicate, List.length_take, List.size_toArray]; omega))) [E_BOf]
  · simp only [C]
    have ht : D.take 32 = D := List.take_of_length_le (by omega)
    simp (maxSteps := 4000000) (disch := (first | with_reducible rfl | assumption | with_reducible exact WB_NB _ _ | (with_reducible refine nb_le ?_; omega) | (with_reducible refine nb16_le ?_; omega) | omega | (simp only [List.length_append, List.length_map, List.length_cons, List.length_nil, List.length_set, List.length_replicate, List.length_take, List.size_toArray]; omega))) [E_BOf, hlen, ht]
theorem sBOf : GoodS (127, BOf) := by
  intro xs r h
  simp only at h
  unfold BOf at h
  split at h
  · obtain ⟨a0, h0, h⟩ := Option.bind_eq_some_iff.1 h
    cases h
    obtain ⟨rfl, b0⟩ := quadD_out h0
    exact .inl <| okW_ends (mkS_ok alls_nil) mixed Tryz.func127 rfl (by kernel_rfl : Fits Tryz.prog E_BOf.ref E_BOf.dep Tryz.f127 = true) (run_BOf _ b0)
  · cases h
attribute [simp] BOf
end Go.Proofs.YtofklpmlgfbmlaaGreat.ZRat
namespace Go.Proofs.YtofklpmlgfbmlaaGreat.ZRat
open Go.RowKit Go.Proofs.YtofklpmlgfbmlaaGreat.Wd
open Go Go.Proofs.YtofklpmlgfbmlaaGreat.Ab Go.Proofs Go.Proofs.YtofklpmlgfbmlaaGreat.Num Go.Proofs.YtofklpmlgfbmlaaGreat.ZRatP
set_option maxHeartbeats 8000000
set_option maxRecDepth 100000
theorem wr31 : wrap64 31 = 31 := by decide +kernel
attribute [simp] wr31
theorem getE {L : List AV} {i : Nat} {x : AV} (h : L[i]? = some x) : ∀ q, L[i]'q = x := fun q => (List.getElem?_eq_some_iff.1 h).2
theorem dg_top (a : Int) (h : 0 ≤ a ∧ a < 115792089237316195423570985008687907853269984665640564039457584007913129639936) : decide (57896044618658097711785492504343953926634992332820282019728792003956564819968 ≤ a) = decide (128 ≤ a / 256 ^ 31 % 256) := by
  congr 1
  apply propext
  rw [show (256 : Int) ^ 31 = 452312848583266388373324160190187140051835877600158453279131187530910662656 from by decide +kernel]
  omega
theorem dg_snoc (a : Int) : ∃ D d, dgN 32 a = D ++ [d] ∧ D.length = 31 := by
  have h := dgN_len 32 a
  generalize dgN 32 a = L at *
  refine ⟨L.take 31, L[31], ?_, by rw [List.length_take]; omega⟩
  have := List.take_append_drop 31 L
  rw [List.drop_eq_getElem_cons (by omega), List.drop_of_length_le (by omega)] at this
  exact this.symm
theorem carry01 (a b : Int) : ∀ i : Nat, 0 ≤ (a + b) / 256 ^ i - a / 256 ^ i - b / 256 ^ i ∧ (a + b) / 256 ^ i - a / 256 ^ i - b / 256 ^ i ≤ 1
  | 0 => by simp; omega
  | i + 1 => by
    have h := carry01 a b i
    have e : ∀ x : Int, x / 256 ^ (i + 1) = x / 256 ^ i / 256 := fun x => by rw [Int.pow_succ, Int.ediv_ediv_of_nonneg (Int.le_of_lt (Int.pow_pos (by omega)))]
    rw [e, e, e]
    omega
theorem add_step (a b : Int) (i : Nat) (hi : i < 32) : Aside0 (wrap64 ((i : Int) + 1) = (i : Int) + 1 ∧
    wrap64 ((a + b) / 256 ^ i - a / 256 ^ i - b / 256 ^ i + a / 256 ^ i % 256) = (a + b) / 256 ^ i - a / 256 ^ i - b / 256 ^ i + a / 256 ^ i % 256 ∧
    wrap64 ((a + b) / 256 ^ i - a / 256 ^ i - b / 256 ^ i + a / 256 ^ i % 256 + b / 256 ^ i % 256) = (a + b) / 256 ^ i - a / 256 ^ i - b / 256 ^ i + a / 256 ^ i % 256 + b / 256 ^ i % 256 ∧
    ((a + b) / 256 ^ i - a / 256 ^ i - b / 256 ^ i + a / 256 ^ i % 256 + b / 256 ^ i % 256).tmod 256 = (a + b) / 256 ^ i % 256 ∧
    wrap64 (((a + b) / 256 ^ i - a / 256 ^ i - b / 256 ^ i + a / 256 ^ i % 256 + b / 256 ^ i % 256).tdiv 256) = (a + b) / 256 ^ (i + 1) - a / 256 ^ (i + 1) - b / 256 ^ (i + 1)) := by
  have h := carry01 a b i
  have e : ∀ x : Int, x / 256 ^ (i + 1) = x / 256 ^ i / 256 := fun x => by rw [Int.pow_succ, Int.ediv_ediv_of_nonneg (Int.le_of_lt (Int.pow_pos (by omega)))]
  rw [e, e, e]
  generalize (a + b) / 256 ^ i = s at *
  generalize a / 256 ^ i = x at *
  generalize b / 256 ^ i = y at *
  refine ⟨w64in _ (by omega) (by omega), w64in _ (by omega) (by omega), w64in _ (by omega) (by omega), ?_, ?_⟩
  · rw [Int.tmod_eq_emod_of_nonneg (by omega)]; omega
  · rw [Int.tdiv_eq_ediv_of_nonneg (by omega), w64in _ (by omega) (by omega)]; omega
noncomputable def BBelow : List AV → Option AV
  | [x0] => (dgD x0).bind fun a0 => some (.bool (decide (57896044618658097711785492504343953926634992332820282019728792003956564819968 ≤ a0)))
  | _ => none
noncomputable def E_BBelow : Env := mkS [] [] []
theorem run_BBelow (a0 : Int) (b0 : 0 ≤ a0 ∧ a0 < 115792089237316195423570985008687907853269984665640564039457584007913129639936) : AEnds E_BBelow (finW Tryz.prog Tryz.f128.results) 0 [.code (Tryz.f128.body.getD .skip)] (startA Tryz.f128 [dgA a0] [] []) (.bool (decide (57896044618658097711785492504343953926634992332820282019728792003956564819968 ≤ a0))) := by
  simp only [Tryz.f128, Option.getD_some, startA]
  have hb := dg_top a0 b0
  have hA : dgA a0 = .row 32 ((dgN 32 a0).map (AV.int .i64)) := by simp only [dgA, rowI, dgN_len]
  rw [hA]
  obtain ⟨D, d, e, hD⟩ : ∃ D d, dgN 32 a0 = D ++ [d] ∧ D.length = 31 := dg_snoc a0
  have hd : d = a0 / 256 ^ 31 % 256 := by
    have := dgN_get 32 a0 31 (by omega)
    rw [e, List.getElem?_append_right (by omega), hD] at this
    simpa using this
  rw [← hd] at hb
  rw [e]
  generalize decide (_ ≤ a0) = z at *
  clear e hA b0 hd
  subst hb
  simp (maxSteps := 4000000) (disch := (first | with_reducible rfl | assumption | with_reducible exact WB_NB _ _ | (with_reducible refine nb_le ?_; omega) | (with_reducible refine nb16_le ?_; omega) | omega | (simp only [List.length_append, List.length_map, List.length_cons, List.length_nil, List.length_set, List.length_replicate, List.length_take, List.size_toArray]; omega))) [E_BBelow, hD]
theorem sBBelow : GoodS (128, BBelow) := by
  intro xs r h
  simp only at h
  unfold BBelow at h
  split at h
  · obtain ⟨a0, h0, h⟩ := Option.bind_eq_some_iff.1 h
    cases h
    obtain ⟨rfl, b0⟩ := dgD_out h0
    exact .inl <| okW_ends (mkS_ok alls_nil) mixed Tryz.func128 rfl (by kernel_rfl : Fits Tryz.prog E_BBelow.ref E_BBelow.dep Tryz.f128 = true) (run_BBelow _ b0)
  · cases h
attribute [simp] BBelow
noncomputable def BAdd : List AV → Option AV
  | [x0, x1] => (dgD x0).bind fun a0 => (dgD x1).bind fun a1 => some (dgA ((a0 + a1) % 115792089237316195423570985008687907853269984665640564039457584007913129639936))
  | _ => none
noncomputable def E_BAdd : Env := mkS [] [(3, [0, 1, 5, 6, 7])] []
theorem run_BAdd (a0 : Int) (b0 : 0 ≤ a0 ∧ a0 < 115792089237316195423570985008687907853269984665640564039457584007913129639936) (a1 : Int) (b1 : 0 ≤ a1 ∧ a1 < 115792089237316195423570985008687907853269984665640564039457584007913129639936) : AEnds E_BAdd (finW Tryz.prog Tryz.f164.results) 0 [.code (Tryz.f164.body.getD .skip)] (startA Tryz.f164 [dgA a0, dgA a1] [] []) (dgA ((a0 + a1) % 115792089237316195423570985008687907853269984665640564039457584007913129639936)) := by
  simp only [Tryz.f164, Option.getD_some, startA]
  have hs := add_step a0 a1
  have hA : ∀ a, dgA a = .row 32 ((dgN 32 a).map (AV.int .i64)) := fun a => by simp only [dgA, rowI, dgN_len]
  have hM : dgN 32 ((a0 + a1) % 115792089237316195423570985008687907853269984665640564039457584007913129639936) = dgN 32 (a0 + a1) := dgN_mod 32 (a0 + a1)
  rw [hA, hA, hA, hM]
  have hx : ∀ a i, i < 32 → ((dgN 32 a).map (AV.int .i64))[i]? = some (.int .i64 (a / 256 ^ i % 256)) := fun a i hi => by rw [List.getElem?_map, dgN_get 32 _ _ hi, Option.map_some]
  have hlen : ∀ a, ((dgN 32 a).map (AV.int .i64)).length = 32 := fun a => by rw [List.length_map, dgN_len]
  clear b0 b1 hM hA
  have xA := hx a0
  have xB := hx a1
  have xD := hx (a0 + a1)
  have lA := hlen a0
  have lB := hlen a1
  have lD := hlen (a0 + a1)
  clear hx hlen
  have c0 : (a0 + a1) / 256 ^ 0 - a0 / 256 ^ 0 - a1 / 256 ^ 0 = 0 := by simp; omega
  generalize (dgN 32 a0).map (AV.int .i64) = A at *
  generalize (dgN 32 a1).map (AV.int .i64) = B at *
  generalize (dgN 32 (a0 + a1)).map (AV.int .i64) = D at *
  simp (maxSteps := 4000000) (disch := (first | with_reducible rfl | assumption | with_reducible exact WB_NB _ _ | (with_reducible refine nb_le ?_; omega) | (with_reducible refine nb16_le ?_; omega) | omega | (simp only [List.length_append, List.length_map, List.length_cons, List.length_nil, List.length_set, List.length_replicate, List.length_take, List.size_toArray]; omega))) [E_BAdd, lA, lB]
  let C : Nat → AS := fun i => ⟨[.row 32 A, .row 32 B, .any, .any, .any, .own 0 0 32 1, .int .i64 ((a0 + a1) / 256 ^ i - a0 / 256 ^ i - a1 / 256 ^ i), .int .i64 i, .any, .any, .any, .any, .any, .any, .any, .any, .any, .any, .any, .any, .any, .any, .any, .any, .any, .any, .any, .any, .any, .any, .any, .any, .any, .any, .any, .any], [.arr (D.take i ++ List.replicate (32 - i) (.int .i64 0))], [false]⟩
  refine loop_up C 32 ?_ (fun i hi IH => ?_) ?_
  · simp only [E_BAdd, firstR, mkS_keep, keepT, List.find?, Nat.reduceBEq, Option.map_some, Option.getD_some]
    simp (maxSteps := 4000000) (disch := (first | with_reducible rfl | assumption | with_reducible exact WB_NB _ _ | (with_reducible refine nb_le ?_; omega) | (with_reducible refine nb16_le ?_; omega) | omega | (simp only [List.length_append, List.length_map, List.length_cons, List.length_nil, List.length_set, List.length_replicate, List.length_take, List.size_toArray]; omega))) [E_BAdd, C]
    omega
  · have F := hs i hi
    have gA := getE (xA i hi)
    have gB := getE (xB i hi)
    have gA' := xA i hi
    have gB' := xB i hi
    have hset := pre_set (c := .int .i64 0) hi (xD i hi)
    have hl := dg_len D 32 i (.int .i64 0) lD (Nat.le_of_lt hi)
    simp only [C] at IH ⊢
    rw [← hset] at IH
    generalize D.take i ++ List.replicate (32 - i) (.int .i64 0) = X at *
    clear hs hset xA xB xD lD
    generalize a0 / 256 ^ i % 256 = da at *
    generalize a1 / 256 ^ i % 256 = db at *
    generalize (a0 + a1) / 256 ^ i % 256 = dc at *
    generalize (a0 + a1) / 256 ^ i - a0 / 256 ^ i - a1 / 256 ^ i = c at *
    generalize (a0 + a1) / 256 ^ (i + 1) - a0 / 256 ^ (i + 1) - a1 / 256 ^ (i + 1) = c' at *
    simp (maxSteps := 4000000) (disch := (first | with_reducible rfl | assumption | with_reducible exact WB_NB _ _ | (with_reducible refine nb_le ?_; omega) | (with_reducible refine nb16_le ?_; omega) | omega | (simp only [List.length_append, List.length_map, List.length_cons, List.length_nil, List.length_set, List.length_replicate, List.length_take, List.size_toArray]; omega))) [E_BAdd, hl, lA, lB, gA, gB, gA', gB', F.out]
    refine again_of ?_ IH
    simp only [E_BAdd, firstR, mkS_keep, keepT, List.find?, Nat.reduceBEq, Option.map_some, Option.getD_some]
    simp (maxSteps := 4000000) (disch := (first | with_reducible rfl | assumption | with_reducible exact WB_NB _ _ | (with_reducible refine nb_le ?_; omega) | (with_reducible refine nb16_le ?_; omega) | omega | (simp only [List.length_append, List.length_map, List.length_cons, List.length_nil, List.length_set, List.length_replicate, List.length_take, List.size_toArray]; omega))) [E_BAdd]
  · simp only [C]
    have ht : D.take 32 = D := List.take_of_length_le (by omega)
    simp (maxSteps := 4000000) (disch := (first | with_reducible rfl | assumption | with_reducible exact WB_NB _ _ | (with_reducible refine nb_le ?_; omega) | (with_reducible refine nb16_le ?_; omega) | omega | (simp only [List.length_append, List.length_map, List.length_cons, List.length_nil, List.length_set, List.length_replicate, List.length_take, List.size_toArray]; omega))) [E_BAdd, lA, lB, lD, ht]
theorem sBAdd : GoodS (164, BAdd) := by
  intro xs r h
  simp only at h
  unfold BAdd at h
  split at h
  · obtain ⟨a0, h0, h⟩ := Option.bind_eq_some_iff.1 h
    obtain ⟨a1, h1, h⟩ := Option.bind_eq_some_iff.1 h
    cases h
    obtain ⟨rfl, b0⟩ := dgD_out h0
    obtain ⟨rfl, b1⟩ := dgD_out h1
    exact .inl <| okW_ends (mkS_ok alls_nil) mixed Tryz.func164 rfl (by kernel_rfl : Fits Tryz.prog E_BAdd.ref E_BAdd.dep Tryz.f164 = true) (run_BAdd _ b0 _ b1)
  · cases h
attribute [simp] BAdd
end Go.Proofs.YtofklpmlgfbmlaaGreat.ZRat
namespace Go.Proofs.YtofklpmlgfbmlaaGreat.ZRat
open Go.RowKit Go.Proofs.YtofklpmlgfbmlaaGreat.Wd
open Go Go.Proofs.YtofklpmlgfbmlaaGreat.Ab Go.Proofs Go.Proofs.YtofklpmlgfbmlaaGreat.Num Go.Proofs.YtofklpmlgfbmlaaGreat.ZRatP
set_option maxHeartbeats 8000000
set_option maxRecDepth 100000
theorem neg_div (a : Int) : ∀ i : Nat, (-1 - a) / 256 ^ i = -1 - a / 256 ^ i
  | 0 => by simp
  | i + 1 => by
    have e : ∀ x : Int, x / 256 ^ (i + 1) = x / 256 ^ i / 256 := fun x => by rw [Int.pow_succ, Int.ediv_ediv_of_nonneg (Int.le_of_lt (Int.pow_pos (by omega)))]
    rw [e, e, neg_div a i]
    omega
theorem neg_step (a : Int) (i : Nat) (hi : i < 32) : Aside0 (wrap64 ((i : Int) + 1) = (i : Int) + 1 ∧ wrap64 (255 - a / 256 ^ i % 256) = (-1 - a) / 256 ^ i % 256) := by
  rw [neg_div]
  generalize a / 256 ^ i = x at *
  refine ⟨w64in _ (by omega) (by omega), ?_⟩
  rw [w64in _ (by omega) (by omega)]; omega
noncomputable def BNeg : List AV → Option AV
  | [x0] => (dgD x0).bind fun a0 => some (dgA ((-a0) % 115792089237316195423570985008687907853269984665640564039457584007913129639936))
  | _ => none
noncomputable def E_BNeg : Env := mkS [(164, BAdd)] [(3, [0, 3, 4, 5])] []
theorem run_BNeg (a0 : Int) (b0 : 0 ≤ a0 ∧ a0 < 115792089237316195423570985008687907853269984665640564039457584007913129639936) : AEnds E_BNeg (finW Tryz.prog Tryz.f129.results) 0 [.code (Tryz.f129.body.getD .skip)] (startA Tryz.f129 [dgA a0] [] []) (dgA ((-a0) % 115792089237316195423570985008687907853269984665640564039457584007913129639936)) := by
  simp only [Tryz.f129, Option.getD_some, startA]
  have hs := neg_step a0
  have hA : ∀ a, dgA a = .row 32 ((dgN 32 a).map (AV.int .i64)) := fun a => by simp only [dgA, rowI, dgN_len]
  have hx : ∀ a i, i < 32 → ((dgN 32 a).map (AV.int .i64))[i]? = some (.int .i64 (a / 256 ^ i % 256)) := fun a i hi => by rw [List.getElem?_map, dgN_get 32 _ _ hi, Option.map_some]
  have hlen : ∀ a, ((dgN 32 a).map (AV.int .i64)).length = 32 := fun a => by rw [List.length_map, dgN_len]
  have hD : dgD (.row 32 ((dgN 32 (-1 - a0)).map (AV.int .i64))) = some ((-1 - a0) % 115792089237316195423570985008687907853269984665640564039457584007913129639936) := by
    rw [← hA, ← dgD_A _ (show 0 ≤ (-1 - a0) % 115792089237316195423570985008687907853269984665640564039457584007913129639936 ∧ (-1 - a0) % 115792089237316195423570985008687907853269984665640564039457584007913129639936 < 115792089237316195423570985008687907853269984665640564039457584007913129639936 by omega)]
    unfold dgA
    rw [show dgN 32 ((-1 - a0) % 115792089237316195423570985008687907853269984665640564039457584007913129639936) = dgN 32 (-1 - a0) from dgN_mod 32 (-1 - a0)]
  have h1 : dgD (.row 32 [.int .i64 1, .int .i64 0, .int .i64 0, .int .i64 0, .int .i64 0, .int .i64 0, .int .i64 0, .int .i64 0, .int .i64 0, .int .i64 0, .int .i64 0, .int .i64 0, .int .i64 0, .int .i64 0, .int .i64 0, .int .i64 0, .int .i64 0, .int .i64 0, .int .i64 0, .int .i64 0, .int .i64 0, .int .i64 0, .int .i64 0, .int .i64 0, .int .i64 0, .int .i64 0, .int .i64 0, .int .i64 0, .int .i64 0, .int .i64 0, .int .i64 0, .int .i64 0]) = some 1 := dgD_A 1 (by omega)
  have hr : ((-1 - a0) % 115792089237316195423570985008687907853269984665640564039457584007913129639936 + 1) % 115792089237316195423570985008687907853269984665640564039457584007913129639936 = (-a0) % 115792089237316195423570985008687907853269984665640564039457584007913129639936 := by omega
  rw [hA a0]
  clear b0 hA
  have xA := hx a0
  have xD := hx (-1 - a0)
  have lA := hlen a0
  have lD := hlen (-1 - a0)
  clear hx hlen
  generalize (dgN 32 a0).map (AV.int .i64) = A at *
  generalize (dgN 32 (-1 - a0)).map (AV.int .i64) = D at *
  have hD := Aside0.mk hD
  have hr := Aside0.mk hr
  simp (maxSteps := 4000000) (disch := (first | with_reducible rfl | assumption | with_reducible exact WB_NB _ _ | (with_reducible refine nb_le ?_; omega) | (with_reducible refine nb16_le ?_; omega) | omega | (simp only [List.length_append, List.length_map, List.length_cons, List.length_nil, List.length_set, List.length_replicate, List.length_take, List.size_toArray]; omega))) [E_BNeg, lA]
  let C : Nat → AS := fun i => ⟨[.row 32 A, .any, .any, .own 0 0 32 1, .own 1 0 32 1, .int .i64 i, .any, .any, .any, .any, .any, .any, .any, .any, .any, .any, .any, .any, .any, .any, .any, .any, .any, .any, .any, .any, .any, .any, .any, .any, .any], [.arr (D.take i ++ List.replicate (32 - i) (.int .i64 0)), .arr [.int .i64 0, .int .i64 0, .int .i64 0, .int .i64 0, .int .i64 0, .int .i64 0, .int .i64 0, .int .i64 0, .int .i64 0, .int .i64 0, .int .i64 0, .int .i64 0, .int .i64 0, .int .i64 0, .int .i64 0, .int .i64 0, .int .i64 0, .int .i64 0, .int .i64 0, .int .i64 0, .int .i64 0, .int .i64 0, .int .i64 0, .int .i64 0, .int .i64 0, .int .i64 0, .int .i64 0, .int .i64 0, .int .i64 0, .int .i64 0, .int .i64 0, .int .i64 0]], [false, false]⟩
  refine loop_up C 32 ?_ (fun i hi IH => ?_) ?_
  · simp only [E_BNeg, firstR, mkS_keep, keepT, List.find?, Nat.reduceBEq, Option.map_some, Option.getD_some]
    simp (maxSteps := 4000000) (disch := (first | with_reducible rfl | assumption | with_reducible exact WB_NB _ _ | (with_reducible refine nb_le ?_; omega) | (with_reducible refine nb16_le ?_; omega) | omega | (simp only [List.length_append, List.length_map, List.length_cons, List.length_nil, List.length_set, List.length_replicate, List.length_take, List.size_toArray]; omega))) [E_BNeg, C]
  · have F := hs i hi
    have gA := getE (xA i hi)
    have gA' := xA i hi
    have hset := pre_set (c := .int .i64 0) hi (xD i hi)
    have hl := dg_len D 32 i (.int .i64 0) lD (Nat.le_of_lt hi)
    simp only [C] at IH ⊢
    rw [← hset] at IH
    generalize D.take i ++ List.replicate (32 - i) (.int .i64 0) = X at *
    clear hs hset xA xD lD hD hr h1
    generalize a0 / 256 ^ i % 256 = da at *
    generalize (-1 - a0) / 256 ^ i % 256 = dc at *
    simp (maxSteps := 4000000) (disch := (first | with_reducible rfl | assumption | with_reducible exact WB_NB _ _ | (with_reducible refine nb_le ?_; omega) | (with_reducible refine nb16_le ?_; omega) | omega | (simp only [List.length_append, List.length_map, List.length_cons, List.length_nil, List.length_set, List.length_replicate, List.length_take, List.size_toArray]; omega))) [E_BNeg, hl, lA, gA, gA', F.out]
    refine again_of ?_ IH
    simp only [E_BNeg, firstR, mkS_keep, keepT, List.find?, Nat.reduceBEq, Option.map_some, Option.getD_some]
    simp (maxSteps := 4000000) (disch := (first | with_reducible rfl | assumption | with_reducible exact WB_NB _ _ | (with_reducible refine nb_le ?_; omega) | (with_reducible refine nb16_le ?_; omega) | omega | (simp only [List.length_append, List.length_map, List.length_cons, List.length_nil, List.length_set, List.length_replicate, List.length_take, List.size_toArray]; omega))) [E_BNeg]
  · simp only [C]
    have ht : D.take 32 = D := List.take_of_length_le (by omega)
    simp (maxSteps := 4000000) (disch := (first | with_reducible rfl | assumption | with_reducible exact WB_NB _ _ | (with_reducible refine nb_le ?_; omega) | (with_reducible refine nb16_le ?_; omega) | omega | (simp only [List.length_append, List.length_map, List.length_cons, List.length_nil, List.length_set, List.length_replicate, List.length_take, List.size_toArray]; omega))) [E_BNeg, lA, lD, ht, hD.out, h1, hr.out, dgA, dgN_len]
theorem sBNeg : GoodS (129, BNeg) := by
  intro xs r h
  simp only at h
  unfold BNeg at h
  split at h
  · obtain ⟨a0, h0, h⟩ := Option.bind_eq_some_iff.1 h
    cases h
    obtain ⟨rfl, b0⟩ := dgD_out h0
    exact .inl <| okW_ends (mkS_ok (alls_cons sBAdd alls_nil)) mixed Tryz.func129 rfl (by kernel_rfl : Fits Tryz.prog E_BNeg.ref E_BNeg.dep Tryz.f129 = true) (run_BNeg _ b0)
  · cases h
attribute [simp] BNeg
end Go.Proofs.YtofklpmlgfbmlaaGreat.ZRat
