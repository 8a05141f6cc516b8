/- What the printed functions of sites' texts come to; the law PointsShows. -/
import Derived.Test.YtmfmojldebhboaaDoorRefE
import Derived.Test.YtmfmojldebhboaaDoorPtC
import Derived.Test.YtmfmojldebhboaaDoorPSa
import Derived.Test.YtmfmojldebhboaaDoorZSx8
import Derived.Lib.ItoaMem
namespace Go.Proofs.YtmfmojldebhboaaDoor.Pt
open Go.RowKit Go.Proofs.YtmfmojldebhboaaDoorW.PrintWords Go.Proofs.YtmfmojldebhboaaDoorW.PrintLast Go.Proofs.YtmfmojldebhboaaDoorW.PrintMore Go.Proofs.YtmfmojldebhboaaDoor.Num Go.Proofs.YtmfmojldebhboaaDoor.ZS Go.Proofs.YtmfmojldebhboaaDoor.ZSP
set_option linter.unusedVariables false
set_option linter.unusedSimpArgs false

theorem dec_bytes (u : Nat) : (Lib.decDigits u).map (fun b => (b.toNat : Int)) = decS u := by
  induction u using Nat.strongRecOn with
  | ind u ih =>
    rw [Lib.decDigits]
    have hb : ∀ d : Nat, d < 10 → (((UInt8.ofNat (48 + d)).toNat : Nat) : Int) = 48 + (d : Int) := by
      intro d hd
      rw [UInt8.toNat_ofNat']
      omega
    by_cases h : u < 10
    · rw [dif_pos h, decS_small u h]
      simp only [List.map_cons, List.map_nil]
      rw [hb u h]
    · rw [dif_neg h, decS_big u h, List.map_append, ih (u / 10) (by omega)]
      simp only [List.map_cons, List.map_nil]
      rw [hb (u % 10) (by omega)]
theorem bytesOf_mk (l : List UInt8) : bytesOf ⟨l.toArray⟩ = l.map (fun b => (b.toNat : Int)) := by simp [bytesOf]
theorem bytesOf_numB (n : Int) : bytesOf (numB n) = decS n.toNat := by
  unfold numB
  rw [bytesOf_mk, show max n 0 = ((n.toNat : Nat) : Int) from by omega, Lib.itoa_nonneg, dec_bytes]
theorem numB_show (n : Int) : showS n.toNat = numB n := bytesOf_inj (by rw [bytesOf_showS, bytesOf_numB])
theorem two_words (n : Nat) (h : n < 9223372036854775808) : VB 4294967296 [((n % 4294967296 : Nat) : Int), ((n / 4294967296 : Nat) : Int)] = n ∧ WB 4294967296 [((n % 4294967296 : Nat) : Int), ((n / 4294967296 : Nat) : Int)] := by
  refine ⟨?_, ?_⟩
  · simp only [VB, Int.toNat_natCast]
    omega
  · refine WB_cons.2 ⟨?_, WB_cons.2 ⟨?_, WB_nil _⟩⟩
    · omega
    · omega
theorem Num_f (n : Int) (hn : In64 n) : Ev (fun k => zelligeref23_Num.f k n) (numB n) := by
  have key : ∀ u : Nat, u < 9223372036854775808 → ∀ l : List Int, l = [((u % 4294967296 : Nat) : Int), ((u / 4294967296 : Nat) : Int)] → Ev (fun k => (zelligeref03_Of.f k l).bind fun t => (zelligeref03_Show.f k t).bind fun s => some s) (showS u) := by
    intro u hu l hl
    obtain ⟨e1, e2⟩ := two_words u hu
    rw [← hl] at e1 e2
    have h1 := ROf_f l e2 (by rw [hl]; simp)
    rw [e1] at h1
    have hlen : (NB 65536 u).length < 1000000000 := by
      have := NB_length_le (b := 65536) (by omega) u 4 (by omega)
      omega
    exact Ev.bind h1 (Ev.bind (RShow_f u hlen) (Ev.now _))
  unfold zelligeref23_Num.f
  rw [← numB_show n]
  by_cases h : n < 0
  · refine Ev.congr (fun k => if_pos h) ?_
    rw [show n.toNat = 0 from by omega]
    exact key 0 (by omega) _ rfl
  · refine Ev.congr (fun k => if_neg h) ?_
    obtain ⟨u, rfl⟩ := Int.eq_ofNat_of_zero_le (show 0 ≤ n by omega)
    rw [Int.toNat_natCast]
    have h1 := hn.2
    refine key u (by omega) _ ?_
    rw [Int.tmod_eq_emod_of_nonneg (by omega), Int.tdiv_eq_ediv_of_nonneg (by omega), w64in _ (by omega) (by omega)]
    have a1 : ((u : Nat) : Int) % 4294967296 % 4294967296 = ((u % 4294967296 : Nat) : Int) := by omega
    have a2 : ((u : Nat) : Int) / 4294967296 % 4294967296 = ((u / 4294967296 : Nat) : Int) := by omega
    rw [a1, a2]
def toN (x : S29) : Nat × Nat × Nat := (x.f0.toNat, x.f1.toNat, x.f2.toNat)
theorem bytesOf_lineB (x : S29) : bytesOf (lineB x) = lineL (toN x) := by
  unfold lineB lineL toN
  simp only [bytesOf_append, bytesOf_numB]
  rw [show bytesOf (⟨#[115, 105, 116, 101, 32]⟩ : ByteArray) = siteW from rfl, show bytesOf (⟨#[32]⟩ : ByteArray) = [32] from rfl, show bytesOf (⟨#[10]⟩ : ByteArray) = [10] from rfl]
  simp
theorem data_bytes (s : ByteArray) : s.data.toList.map (fun b => (b.toNat : Int)) = bytesOf s := rfl
theorem bytesOf_bodyB (n : Int) (l : List S29) : bytesOf ⟨(bodyB n l).toArray⟩ = headW ++ (decS n.toNat ++ 10 :: (l.map toN).flatMap lineL) := by
  rw [bytesOf_mk]
  unfold bodyB headB
  rw [List.map_append, data_bytes, bytesOf_append, bytesOf_append, bytesOf_numB]
  have e : (l.flatMap (fun x => (lineB x).data.toList)).map (fun b => (b.toNat : Int)) = (l.map toN).flatMap lineL := by
    induction l with
    | nil => rfl
    | cons x l ih =>
      simp only [List.flatMap_cons, List.map_append, List.map_cons]
      rw [ih, data_bytes, bytesOf_lineB]
  rw [e, show bytesOf (⟨#[112, 111, 105, 110, 116, 115, 32]⟩ : ByteArray) = headW from rfl, show bytesOf (⟨#[10]⟩ : ByteArray) = [10] from rfl]
  simp
theorem bytesOf_showB (n : Int) (l : List S29) : bytesOf (showB n l) = textL n.toNat (l.map toN) := by
  unfold showB
  rw [bytesOf_append, bytesOf_bodyB, show bytesOf (⟨#[101, 110, 100, 10]⟩ : ByteArray) = endW from rfl]
  unfold textL
  simp
def AllIn (l : List S29) : Prop := ∀ x ∈ l, In64 x.f0 ∧ In64 x.f1 ∧ In64 x.f2
theorem rd_get29 (l : List S29) (i : Nat) (h : i < l.length) : rd_T29 l (i : Int) = l[i] := by
  unfold rd_T29
  rw [Int.toNat_natCast, List.getD_eq_getElem?_getD, List.getElem?_eq_getElem h]
  rfl
theorem RShow23_l0 (n : Int) (hn : In64 n) (l : List S29) (hl : l.length ≤ 1000) (hx : AllIn l) : ∀ (d i : Nat), l.length - i = d → i ≤ l.length → Ev (fun k => zelligeref23_Show.l0 k l ⟨(bodyB n (l.take i)).toArray⟩ (i : Int)) (showB n l) := by
  have hsz : ∀ i, (⟨(bodyB n (l.take i)).toArray⟩ : ByteArray).size ≤ 108 + 400 * 1000 := by
    intro i
    have h1 := bodyB_len n hn (l.take i) (fun x h => hx x (List.mem_of_mem_take h))
    have h2 : (l.take i).length ≤ l.length := by rw [List.length_take]; exact Nat.min_le_right _ _
    have h3 : (⟨(bodyB n (l.take i)).toArray⟩ : ByteArray).size = (bodyB n (l.take i)).length := List.size_toArray
    omega
  intro d
  induction d with
  | zero =>
    intro i hd hi
    have h1 := hsz i
    refine Ev.step (f := fun _ => some _) (fun k => ?_) (Ev.now _)
    show zelligeref23_Show.l0 (k + 1) _ _ _ = _
    simp only [zelligeref23_Show.l0]
    rw [if_neg (by omega), if_pos (by omega), List.take_of_length_le (show l.length ≤ i by omega)]
    rfl
  | succ d ih =>
    intro i hd hi
    have hi2 : i < l.length := by omega
    have h1 := hsz i
    have hm := hx _ (List.getElem_mem hi2)
    have er := rd_get29 l i hi2
    have n0 := Num_f _ hm.1
    have n1 := Num_f _ hm.2.1
    have n2 := Num_f _ hm.2.2
    have z0 := itoa_len _ hm.1
    have z1 := itoa_len _ hm.2.1
    have z2 := itoa_len _ hm.2.2
    have nx := ih (i + 1) (by omega) (by omega)
    have es : ((((((((⟨(bodyB n (l.take i)).toArray⟩ : ByteArray) ++ (⟨#[115, 105, 116, 101, 32]⟩ : ByteArray)) ++ numB l[i].f0) ++ (⟨#[32]⟩ : ByteArray)) ++ numB l[i].f1) ++ (⟨#[32]⟩ : ByteArray)) ++ numB l[i].f2) ++ (⟨#[10]⟩ : ByteArray)) = ⟨(bodyB n (l.take (i + 1))).toArray⟩ := by
      apply bytesOf_inj
      rw [bodyB_take n l i hi2, er]
      have e2 : bytesOf ⟨(bodyB n (l.take i) ++ (lineB l[i]).data.toList).toArray⟩ = bytesOf ⟨(bodyB n (l.take i)).toArray⟩ ++ bytesOf (lineB l[i]) := by
        rw [bytesOf_mk, bytesOf_mk, List.map_append, data_bytes]
      rw [e2]
      unfold lineB
      simp only [bytesOf_append, List.append_assoc]
    generalize hS : (⟨(bodyB n (l.take i)).toArray⟩ : ByteArray) = S at *
    refine Ev.step (f := fun k => (zelligeref23_Num.f k l[i].f0).bind fun t0 => if S.size + 5 + t0.size ≤ 9223372036854775807 then (if S.size + 5 + t0.size + 1 ≤ 9223372036854775807 then ((zelligeref23_Num.f k l[i].f1).bind fun t1 => if S.size + 5 + t0.size + 1 + t1.size ≤ 9223372036854775807 then (if S.size + 5 + t0.size + 1 + t1.size + 1 ≤ 9223372036854775807 then ((zelligeref23_Num.f k l[i].f2).bind fun t2 => if S.size + 5 + t0.size + 1 + t1.size + 1 + t2.size ≤ 9223372036854775807 then (if S.size + 5 + t0.size + 1 + t1.size + 1 + t2.size + 1 ≤ 9223372036854775807 then zelligeref23_Show.l0 k l (((((((S ++ (⟨#[115, 105, 116, 101, 32]⟩ : ByteArray)) ++ t0) ++ (⟨#[32]⟩ : ByteArray)) ++ t1) ++ (⟨#[32]⟩ : ByteArray)) ++ t2) ++ (⟨#[10]⟩ : ByteArray)) ((i + 1 : Nat) : Int) else none) else none) else none) else none) else none) else none) (fun k => ?_) ?_
    · show zelligeref23_Show.l0 (k + 1) _ _ _ = _
      simp only [zelligeref23_Show.l0]
      rw [if_pos (by omega), if_pos (by omega), if_pos (by omega), er, wsucc i (by omega)]
    · refine Ev.bind n0 (Ev.congr (fun k => if_pos (by omega)) (Ev.congr (fun k => if_pos (by omega)) (Ev.bind n1 (Ev.congr (fun k => if_pos (by omega)) (Ev.congr (fun k => if_pos (by omega)) (Ev.bind n2 (Ev.congr (fun k => if_pos (by omega)) (Ev.congr (fun k => if_pos (by omega)) ?_))))))))
      rw [es]
      exact nx
theorem RShow23_f (n : Int) (hn : In64 n) (l : List S29) (hl : l.length ≤ 1000) (hx : AllIn l) : Ev (fun k => zelligeref23_Show.f k n l) (showB n l) := by
  have h := RShow23_l0 n hn l hl hx _ 0 rfl (Nat.zero_le _)
  have z := itoa_len n hn
  unfold zelligeref23_Show.f
  refine Ev.bind (Num_f n hn) (Ev.congr (fun k => if_pos (by omega)) (Ev.congr (fun k => if_pos (by omega)) ?_))
  have e : (((⟨#[112, 111, 105, 110, 116, 115, 32]⟩ : ByteArray) ++ numB n) ++ (⟨#[10]⟩ : ByteArray)) = ⟨(bodyB n (l.take 0)).toArray⟩ := by
    apply bytesOf_inj
    rw [bytesOf_mk]
    unfold bodyB headB
    rw [List.take_zero, List.flatMap_nil, List.append_nil, data_bytes]
  rw [e]
  exact h
theorem Same_f (l : List S29) (h : l.length < 1099511627776) : Ev (fun k => zelligeref23_Same.f k l l) true := by
  have go : ∀ (d i : Nat), l.length - i = d → i ≤ l.length → Ev (fun k => zelligeref23_Same.l0 k l l (i : Int)) true := by
    intro d
    induction d with
    | zero =>
      intro i hd hi
      refine Ev.step (f := fun _ => some true) (fun k => ?_) (Ev.now _)
      show zelligeref23_Same.l0 (k + 1) _ _ _ = _
      simp only [zelligeref23_Same.l0]
      rw [if_neg (by omega)]
    | succ d ih =>
      intro i hd hi
      refine Ev.step (fun k => ?_) (ih (i + 1) (by omega) (by omega))
      show zelligeref23_Same.l0 (k + 1) _ _ _ = _
      simp only [zelligeref23_Same.l0]
      rw [if_pos (by omega), if_pos (by omega), if_pos (by omega), wsz i (by omega)]
      simp
  unfold zelligeref23_Same.f
  exact Ev.congr (fun k => if_pos rfl) (go _ 0 rfl (Nat.zero_le _))
def Ok62 (n : Int) : Prop := 0 ≤ n ∧ n ≤ 4611686018427387904
theorem val_ok (n : Int) (h : Ok62 n) : valC n.toNat = n := by
  have h1 := h.1
  have h2 := h.2
  rw [valC_eq _ (by omega)]
  omega
theorem map_ok (l : List S29) (h : ∀ x ∈ l, Ok62 x.f0 ∧ Ok62 x.f1 ∧ Ok62 x.f2) : (l.map toN).map (fun x => mk3 (val3 x)) = l := by
  rw [List.map_map]
  conv => rhs; rw [← List.map_id l]
  refine List.map_congr_left (fun x hx => ?_)
  obtain ⟨h0, h1, h2⟩ := h x hx
  show mk3 (valC x.f0.toNat, valC x.f1.toNat, valC x.f2.toNat) = x
  rw [val_ok _ h0, val_ok _ h1, val_ok _ h2]
  rfl
theorem law_l0 (n : Int) (l : List S29) (hl : l.length ≤ 10) : ∀ (d i : Nat) (b : Bool), l.length - i = d → i ≤ l.length → (b = true → Ok62 n ∧ ∀ x ∈ l.take i, Ok62 x.f0 ∧ Ok62 x.f1 ∧ Ok62 x.f2) →
    Ev (fun k => zelligelaw23_PointsShows.l0 k n l (valC n.toNat) ((l.map toN).map (fun x => mk3 (val3 x))) 0 0 b (i : Int)) true := by
  intro d
  induction d with
  | zero =>
    intro i b hd hi hb
    have lv := lives_f
    have fin : Ev (fun k => (zelligelaw23_lives.f k).bind fun t => some t) true := Ev.bind lv (Ev.now _)
    cases b with
    | false =>
      refine Ev.step (fun k => ?_) fin
      show zelligelaw23_PointsShows.l0 (k + 1) _ _ _ _ _ _ _ _ = _
      simp only [zelligelaw23_PointsShows.l0]
      rw [if_neg (by omega), if_pos trivial, if_pos trivial, if_neg Bool.false_ne_true]
    | true =>
      obtain ⟨g1, g2⟩ := hb rfl
      rw [List.take_of_length_le (by omega)] at g2
      have hs := Same_f l (by omega)
      rw [map_ok l g2, val_ok n g1]
      refine Ev.step (f := fun k => (zelligeref23_Same.f k l l).bind fun t => if t = true then ((zelligelaw23_lives.f k).bind fun t => some t) else some false) (fun k => ?_) (Ev.bind hs (Ev.congr (fun k => if_pos rfl) fin))
      show zelligelaw23_PointsShows.l0 (k + 1) _ _ _ _ _ _ _ _ = _
      simp only [zelligelaw23_PointsShows.l0]
      rw [if_neg (by omega), if_pos trivial, if_pos trivial, if_pos trivial, if_pos trivial]
  | succ d ih =>
    intro i b hd hi hb
    have hi2 : i < l.length := by omega
    have er := rd_get29 l i hi2
    have no := ih (i + 1) false (by omega) (by omega) (fun h => Bool.noConfusion h)
    have st : ∀ c : Bool, (∀ k, zelligelaw23_PointsShows.l0 (k + 1) n l (valC n.toNat) ((l.map toN).map (fun x => mk3 (val3 x))) 0 0 b (i : Int) = zelligelaw23_PointsShows.l0 k n l (valC n.toNat) ((l.map toN).map (fun x => mk3 (val3 x))) 0 0 c ((i + 1 : Nat) : Int)) → (c = true → Ok62 n ∧ ∀ x ∈ l.take (i + 1), Ok62 x.f0 ∧ Ok62 x.f1 ∧ Ok62 x.f2) →
        Ev (fun k => zelligelaw23_PointsShows.l0 k n l (valC n.toNat) ((l.map toN).map (fun x => mk3 (val3 x))) 0 0 b (i : Int)) true :=
      fun c h hc => Ev.step h (ih (i + 1) c (by omega) (by omega) hc)
    have un : ∀ k, zelligelaw23_PointsShows.l0 (k + 1) n l (valC n.toNat) ((l.map toN).map (fun x => mk3 (val3 x))) 0 0 b (i : Int) = if b = true then (if l[i].f0 ≥ 0 then (if l[i].f0 ≤ 4611686018427387904 then (if l[i].f1 ≥ 0 then (if l[i].f1 ≤ 4611686018427387904 then (if l[i].f2 ≥ 0 then zelligelaw23_PointsShows.l0 k n l (valC n.toNat) ((l.map toN).map (fun x => mk3 (val3 x))) 0 0 (decide (l[i].f2 ≤ 4611686018427387904)) ((i + 1 : Nat) : Int) else zelligelaw23_PointsShows.l0 k n l (valC n.toNat) ((l.map toN).map (fun x => mk3 (val3 x))) 0 0 false ((i + 1 : Nat) : Int)) else zelligelaw23_PointsShows.l0 k n l (valC n.toNat) ((l.map toN).map (fun x => mk3 (val3 x))) 0 0 false ((i + 1 : Nat) : Int)) else zelligelaw23_PointsShows.l0 k n l (valC n.toNat) ((l.map toN).map (fun x => mk3 (val3 x))) 0 0 false ((i + 1 : Nat) : Int)) else zelligelaw23_PointsShows.l0 k n l (valC n.toNat) ((l.map toN).map (fun x => mk3 (val3 x))) 0 0 false ((i + 1 : Nat) : Int)) else zelligelaw23_PointsShows.l0 k n l (valC n.toNat) ((l.map toN).map (fun x => mk3 (val3 x))) 0 0 false ((i + 1 : Nat) : Int)) else zelligelaw23_PointsShows.l0 k n l (valC n.toNat) ((l.map toN).map (fun x => mk3 (val3 x))) 0 0 false ((i + 1 : Nat) : Int) := by
      intro k
      simp only [zelligelaw23_PointsShows.l0]
      rw [if_pos (by omega), if_pos (by omega), er, wsucc i (by omega)]
    by_cases hbt : b = true
    · by_cases c0 : l[i].f0 ≥ 0
      · by_cases c1 : l[i].f0 ≤ 4611686018427387904
        · by_cases c2 : l[i].f1 ≥ 0
          · by_cases c3 : l[i].f1 ≤ 4611686018427387904
            · by_cases c4 : l[i].f2 ≥ 0
              · refine st _ (fun k => by rw [un k, if_pos hbt, if_pos c0, if_pos c1, if_pos c2, if_pos c3, if_pos c4]) (fun h => ?_)
                have c5 := of_decide_eq_true h
                obtain ⟨g1, g2⟩ := hb hbt
                refine ⟨g1, fun x hx => ?_⟩
                rw [List.take_succ_eq_append_getElem hi2] at hx
                rcases List.mem_append.1 hx with hx | hx
                · exact g2 x hx
                · rw [List.mem_singleton.1 hx]
                  exact ⟨⟨c0, c1⟩, ⟨c2, c3⟩, ⟨c4, c5⟩⟩
              · exact st false (fun k => by rw [un k, if_pos hbt, if_pos c0, if_pos c1, if_pos c2, if_pos c3, if_neg c4]) (fun h => Bool.noConfusion h)
            · exact st false (fun k => by rw [un k, if_pos hbt, if_pos c0, if_pos c1, if_pos c2, if_neg c3]) (fun h => Bool.noConfusion h)
          · exact st false (fun k => by rw [un k, if_pos hbt, if_pos c0, if_pos c1, if_neg c2]) (fun h => Bool.noConfusion h)
        · exact st false (fun k => by rw [un k, if_pos hbt, if_pos c0, if_neg c1]) (fun h => Bool.noConfusion h)
      · exact st false (fun k => by rw [un k, if_pos hbt, if_neg c0]) (fun h => Bool.noConfusion h)
    · exact st false (fun k => by rw [un k, if_neg hbt]) (fun h => Bool.noConfusion h)
theorem few_f (l : List S29) : zelligelaw23_few.f l = some (l.take 10) := by
  unfold zelligelaw23_few.f
  by_cases h : (l.length : Int) > 10
  · rw [if_pos h, if_pos (by omega), Option.bind_some, Option.bind_some, if_pos (by simp; omega), List.nil_append]
  · rw [if_neg h, Option.bind_some, if_pos (by simp; omega), List.nil_append, List.take_of_length_le (by omega)]
/-- The law. -/
theorem PointsShows (n : Int) (hn : In64 n) (l : List S29) (hx : AllIn l) : ∃ k, zelligelaw23_PointsShows.f k n l = some true := by
  apply Ev.rounds
  have hl : (l.take 10).length ≤ 10 := by rw [List.length_take]; exact Nat.min_le_left _ _
  have hx2 : AllIn (l.take 10) := fun x h => hx x (List.mem_of_mem_take h)
  have h1 := RShow23_f n hn (l.take 10) (by omega) hx2
  have h3 : (showB n (l.take 10)).size < 1099511627776 := by
    have a := bodyB_len n hn (l.take 10) hx2
    have b : (⟨(bodyB n (l.take 10)).toArray⟩ : ByteArray).size = (bodyB n (l.take 10)).length := List.size_toArray
    have c : (⟨#[101, 110, 100, 10]⟩ : ByteArray).size = 4 := rfl
    unfold showB
    rw [ByteArray.size_append]
    omega
  have h2 := Parse_f (showB n (l.take 10)) h3
  rw [bytesOf_showB, resS_text] at h2
  have g := law_l0 n (l.take 10) hl ((l.take 10).length - 0) 0
  have hs : points_Show.f n (l.take 10) = some (showB n (l.take 10)) := by
    unfold points_Show.f
    rw [if_pos ⟨hn, by omega, hx2⟩]
  unfold zelligelaw23_PointsShows.f
  simp only [few_f, Option.bind_some, hs]
  refine Ev.bind h1 (Ev.congr (fun k => if_pos rfl) (Ev.bind h2 ?_))
  · have j0 : ∀ b : Bool, (b = true → Ok62 n) → Ev (fun k => zelligelaw23_PointsShows.j0 k n (l.take 10) (valC n.toNat) (((l.take 10).map toN).map (fun x => mk3 (val3 x))) 0 0 b) true := by
      intro b hb
      refine Ev.step (fun k => ?_) (g b rfl (Nat.zero_le _) (fun h => ⟨hb h, fun x hx => by simp at hx⟩))
      rfl
    by_cases c : n ≥ 0
    · exact Ev.congr (fun k => if_pos c) (j0 _ (fun h => ⟨c, of_decide_eq_true h⟩))
    · exact Ev.congr (fun k => if_neg c) (j0 false (fun h => Bool.noConfusion h))
end Go.Proofs.YtmfmojldebhboaaDoor.Pt
