import Derived.Test.YtpbaloceljfaoaaLt
import Derived.Test.YtpbaloceljfaoaaXPsF
import Derived.Test.YtpbaloceljfaoaaXPsF
set_option linter.unusedVariables false
set_option linter.unusedSimpArgs false
namespace Go.Proofs.Ytpbaloceljfaoaa.ZRat
open Go.RowKit Go.Proofs.Ytpbaloceljfaoaa.Wd
open Go Go.Proofs.Ytpbaloceljfaoaa.Ab Go.Proofs
set_option linter.unusedSimpArgs false
set_option linter.unusedVariables false
set_option maxHeartbeats 8000000
set_option maxRecDepth 100000
theorem midG (A : List G3) (y x : G3) (B : List G3) : (A ++ y :: x :: B).flatMap cG = A.flatMap cG ++ ([.int .i64 y.1, .int .i64 y.2.1, .int .i64 y.2.2, .int .i64 x.1, .int .i64 x.2.1, .int .i64 x.2.2] ++ B.flatMap cG) := by
  simp [List.flatMap_append, List.flatMap_cons, cG]
/-- A round within: how far a site has gone down. -/
def inG (l : List G3) (i j : Nat) : List G3 := (seqG l i).take j ++ gAt l i :: ((seqG l i).drop j ++ l.drop (i + 1))
theorem inG_top {l : List G3} {i : Nat} (h : i < l.length) : inG l i i = seqG l i ++ l.drop i := by
  have hl := seqG_len (Nat.le_of_lt h)
  unfold inG
  rw [List.take_of_length_le (by omega), List.drop_of_length_le (by omega : (seqG l i).length ≤ i), List.nil_append, List.drop_eq_getElem_cons h]
  have e := gAt_get h
  rw [List.getElem?_eq_getElem h] at e
  rw [Option.some.inj e]
theorem inG_bot {l : List G3} {i : Nat} (h : i < l.length) : inG l i (insJ (seqG l i) (gAt l i)) = seqG l (i + 1) ++ l.drop (i + 1) := by
  rw [seqG_succ h, putG_ins]
  simp [inG]
theorem inG_step {l : List G3} {i m : Nat} (h : i < l.length) (hm : m < i) : ∃ A B : List G3, A.length = m ∧ inG l i (m + 1) = A ++ gAt (seqG l i) m :: gAt l i :: B ∧ inG l i m = A ++ gAt l i :: gAt (seqG l i) m :: B := by
  have hl := seqG_len (Nat.le_of_lt h)
  have hm2 : m < (seqG l i).length := by omega
  refine ⟨(seqG l i).take m, (seqG l i).drop (m + 1) ++ l.drop (i + 1), by rw [List.length_take]; omega, ?_, ?_⟩
  · unfold inG
    rw [List.take_add_one, gAt_get hm2]
    simp
  · unfold inG
    have e := gAt_get hm2
    rw [List.getElem?_eq_getElem hm2] at e
    rw [List.drop_eq_getElem_cons hm2, Option.some.inj e]
    simp
theorem inG_len {l : List G3} {i j : Nat} (h : i < l.length) (hj : j ≤ i) : (inG l i j).length = l.length := by
  have hl := seqG_len (Nat.le_of_lt h)
  unfold inG
  simp only [List.length_append, List.length_cons, List.length_take, List.length_drop]
  omega
noncomputable def decQ (n : Nat) (x : List AV) : Option (List G3) := dec rowG (.row n x)
theorem decQ_out {n : Nat} {x : List AV} {l : List G3} (h : decQ n x = some l) : x = l.flatMap cG ∧ n = l.length := by
  have := dec_out h
  simp only [rowG, AV.row.injEq] at this
  exact ⟨this.2, this.1⟩
theorem decQ_of (l : List G3) : decQ l.length (l.flatMap cG) = some l := decG l
attribute [simp] decQ_of
noncomputable def decQ2 (n : Nat) (m : Int) (x : List AV) : Option (List G3) := if m = n then decQ n x else none
theorem decQ2_out {n : Nat} {m : Int} {x : List AV} {l : List G3} (h : decQ2 n m x = some l) : x = l.flatMap cG ∧ n = l.length ∧ m = l.length := by
  unfold decQ2 at h
  split at h
  · rename_i e
    obtain ⟨h1, h2⟩ := decQ_out h
    exact ⟨h1, h2, by rw [e, h2]⟩
  · cases h
theorem decQ2_of (l : List G3) : decQ2 l.length l.length (l.flatMap cG) = some l := by unfold decQ2; rw [if_pos rfl]; exact decQ_of l
attribute [simp] decQ2_of
theorem wr1 : wrap64 1 = 1 := by decide +kernel
attribute [simp] wr1
theorem smallP {l : List G3} (h : smallG l) (i j : Nat) (hi : i < l.length) (hj : j < l.length) : wrap64 ((gAt l i).1 - (gAt l j).1) = (gAt l i).1 - (gAt l j).1 := by
  have h1 := small_at h hi
  have h2 := small_at h hj
  exact w64in _ (by omega) (by omega)
theorem swapL (FA FB : List AV) (a b c d e f : AV) (m : Nat) (h : FA.length = m * 3) : ((((((FA ++ ([a, b, c, d, e, f] ++ FB)).set ((m + 1) * 3) a).set ((m + 1) * 3 + 1) b).set ((m + 1) * 3 + 2) c).set (m * 3) d).set (m * 3 + 1) e).set (m * 3 + 2) f = FA ++ ([d, e, f, a, b, c] ++ FB) := by
  have e1 : (m + 1) * 3 = FA.length + 3 := by omega
  have e0 : m * 3 = FA.length + 0 := by omega
  have sL : ∀ (Y : List AV) (k : Nat) (v : AV), (FA ++ Y).set (FA.length + k) v = FA ++ Y.set k v := fun Y k v => by rw [List.set_append_right _ _ (by omega), Nat.add_sub_cancel_left]
  rw [e1, e0]
  simp only [Nat.add_assoc, sL, Nat.reduceAdd]
  rfl
theorem dropL (FA X Y : List AV) (n : Nat) (h : FA.length = n) (hx : X.length = 3) : ((FA ++ (X ++ Y)).drop n).take 3 = X := by
  rw [← h, List.drop_left, List.take_append_of_le_length (by omega), List.take_of_length_le (by omega)]
/-- What a round within reads and writes. -/
theorem in_facts {l : List G3} {i m : Nat} (h : i < l.length) (hm : m < i) : ∃ D D' : List AV, (inG l i (m + 1)).flatMap cG = D ∧ (inG l i m).flatMap cG = D' ∧ (D.drop ((m + 1) * 3)).take 3 = [.int .i64 (gAt l i).1, .int .i64 (gAt l i).2.1, .int .i64 (gAt l i).2.2] ∧ (D.drop (m * 3)).take 3 = [.int .i64 (gAt (seqG l i) m).1, .int .i64 (gAt (seqG l i) m).2.1, .int .i64 (gAt (seqG l i) m).2.2] ∧
    ((((((D.set ((m + 1) * 3) (.int .i64 (gAt (seqG l i) m).1)).set ((m + 1) * 3 + 1) (.int .i64 (gAt (seqG l i) m).2.1)).set ((m + 1) * 3 + 2) (.int .i64 (gAt (seqG l i) m).2.2)).set (m * 3) (.int .i64 (gAt l i).1)).set (m * 3 + 1) (.int .i64 (gAt l i).2.1)).set (m * 3 + 2) (.int .i64 (gAt l i).2.2)) = D' ∧ D.length = l.length * 3 := by
  obtain ⟨A, B, hA, e1, e2⟩ := inG_step h hm
  have hA3 : (A.flatMap cG).length = m * 3 := by rw [lenG, hA]
  have hln := inG_len h (show m + 1 ≤ i by omega)
  refine ⟨_, _, rfl, rfl, ?_, ?_, ?_, by rw [lenG, hln]⟩
  · have q := dropL (A.flatMap cG ++ [.int .i64 (gAt (seqG l i) m).1, .int .i64 (gAt (seqG l i) m).2.1, .int .i64 (gAt (seqG l i) m).2.2]) [.int .i64 (gAt l i).1, .int .i64 (gAt l i).2.1, .int .i64 (gAt l i).2.2] (B.flatMap cG) ((m + 1) * 3) (by rw [List.length_append, hA3]; simp only [List.length_cons, List.length_nil]; omega) rfl
    rw [e1, midG]
    rw [List.append_assoc] at q
    exact q
  · rw [e1, midG]
    exact dropL (A.flatMap cG) [.int .i64 (gAt (seqG l i) m).1, .int .i64 (gAt (seqG l i) m).2.1, .int .i64 (gAt (seqG l i) m).2.2] ([.int .i64 (gAt l i).1, .int .i64 (gAt l i).2.1, .int .i64 (gAt l i).2.2] ++ B.flatMap cG) _ hA3 rfl
  · rw [e1, e2, midG, midG]
    exact swapL _ _ _ _ _ _ _ _ m hA3
open Classical in
noncomputable def QIns : List AV → List Blk → List Bool → Option (AV × List Blk × List Bool)
  | [.own 0 0 n 3, .int .i64 0, .int .i64 m, .fn 10], [.arr cs], [false] => (decQ2 n m cs).bind fun l => if 1 ≤ l.length ∧ l.length ≤ 12 ∧ smallG l then some (.tup [], [.arr ((seqG l l.length).flatMap cG)], [false]) else none
  | _, _, _ => none
noncomputable def E_QIns : Env := mkQ [(10, MCmp)] [] [(1, [0, 1, 2, 3, 8]), (4, [0, 1, 2, 3, 8, 9])] []
theorem run_QIns (l : List G3) (n : Nat) (hn : n = l.length) (hb : 1 ≤ l.length ∧ l.length ≤ 12 ∧ smallG l) : AEnds E_QIns (finR Try.prog Try.f20.results) 1 [.code (Try.f20.body.getD .skip)] (startA Try.f20 [.own 0 0 l.length 3, .int .i64 0, .int .i64 l.length, .fn 10] [.arr (l.flatMap cG)] [false]) (.tup [], [.arr ((seqG l l.length).flatMap cG)], [false]) := by
  simp only [Try.f20, Option.getD_some, startA]
  obtain ⟨hb1, hb2, hsm⟩ := hb
  have hl := lenG l
  have h0 : l.flatMap cG = (seqG l 1 ++ l.drop 1).flatMap cG := by
    cases l with
    | nil => simp at hb1
    | cons a l => rfl
  rw [h0]
  simp (maxSteps := 4000000) (disch := (first | with_reducible rfl | assumption | omega | (simp only [List.length_append, List.length_map, List.length_cons, List.length_nil, List.length_set, List.length_replicate, List.length_take, List.size_toArray]; omega))) [E_QIns, hl]
  let C : Nat → AS := fun i => ⟨[.own 0 0 l.length 3, .int .i64 0, .int .i64 l.length, .fn 10, .any, .any, .any, .any, .int .i64 (i + 1 : Nat), .any, .any, .any, .any, .any, .any, .any, .any, .any, .any, .any, .any, .any, .any, .any, .any, .any, .any, .any, .any, .any, .any, .any, .any, .any, .any, .any, .any, .any, .any, .any, .any, .any, .any, .any, .any, .any, .any, .any, .any, .any, .any, .any, .any], [.arr ((seqG l (i + 1) ++ l.drop (i + 1)).flatMap cG)], [false]⟩
  refine loop_up C (l.length - 1) ?_ (fun i' hi IH => ?_) ?_
  · simp only [E_QIns, firstR, mkQ_keep, keepT, List.find?, Nat.reduceBEq, Option.map_some, Option.getD_some]
    simp (maxSteps := 4000000) (disch := (first | with_reducible rfl | assumption | omega | (simp only [List.length_append, List.length_map, List.length_cons, List.length_nil, List.length_set, List.length_replicate, List.length_take, List.size_toArray]; omega))) [E_QIns, C, hl]
  · simp only [C] at IH ⊢
    clear C
    obtain ⟨i, ei⟩ : ∃ i, i = i' + 1 := ⟨_, rfl⟩
    rw [← ei] at IH ⊢
    have hi2 : i < l.length := by omega
    have hi1 : 1 ≤ i := by omega
    clear ei hi
    have hlt : ((i : Int) < (l.length : Int)) = True := by first | (simp; omega) | simp
    have hlD : ((seqG l i ++ l.drop i).flatMap cG).length = l.length * 3 := by rw [← inG_top hi2, lenG, inG_len hi2 (Nat.le_refl i)]
    rw [← inG_top hi2] at hlD ⊢
    rw [← inG_bot hi2] at IH
    have hJ := insJ_le (seqG l i) (gAt l i)
    have hsl := seqG_len (Nat.le_of_lt hi2)
    have hJ2 : insJ (seqG l i) (gAt l i) ≤ i := by omega
    simp (maxSteps := 4000000) (disch := (first | with_reducible rfl | assumption | omega | (simp only [List.length_append, List.length_map, List.length_cons, List.length_nil, List.length_set, List.length_replicate, List.length_take, List.size_toArray]; omega))) [E_QIns, hlt, hi2, hlD]
    let C : Nat → AS := fun k => ⟨[.own 0 0 l.length 3, .int .i64 0, .int .i64 l.length, .fn 10, .any, .any, .any, .any, .int .i64 i, .int .i64 (i - k : Nat), .any, .any, .any, .any, .any, .any, .any, .any, .any, .any, .any, .any, .any, .any, .any, .any, .any, .any, .any, .any, .any, .any, .any, .any, .any, .any, .any, .any, .any, .any, .any, .any, .any, .any, .any, .any, .any, .any, .any, .any, .any, .any, .any], [.arr ((inG l i (i - k)).flatMap cG)], [false]⟩
    refine loop_up C (i - insJ (seqG l i) (gAt l i)) ?_ (fun k hk IH2 => ?_) ?_
    · simp only [E_QIns, firstR, mkQ_keep, keepT, List.find?, Nat.reduceBEq, Option.map_some, Option.getD_some]
      simp (maxSteps := 4000000) (disch := (first | with_reducible rfl | assumption | omega | (simp only [List.length_append, List.length_map, List.length_cons, List.length_nil, List.length_set, List.length_replicate, List.length_take, List.size_toArray]; omega))) [E_QIns, C, Nat.sub_zero]
    · simp only [C] at IH2 ⊢
      obtain ⟨m, em⟩ : ∃ m, m + 1 = i - k := ⟨i - k - 1, by omega⟩
      have em2 : i - (k + 1) = m := by omega
      rw [← em]
      rw [em2] at IH2
      obtain ⟨D, D', eD, eD', d1, d0, hsw, hD⟩ := in_facts hi2 (show m < i by omega)
      rw [eD]
      rw [eD', ← hsw] at IH2
      have hgt := insJ_ge (srt_seq l i (Nat.le_of_lt hi2)) (show insJ (seqG l i) (gAt l i) ≤ m by omega) (show m < (seqG l i).length by omega)
      have hs1 := small_at hsm hi2
      have hs2 := small_at (small_seq hsm i (Nat.le_of_lt hi2)) (show m < (seqG l i).length by omega)
      have hw : wrap64 ((gAt l i).1 - (gAt (seqG l i) m).1) = (gAt l i).1 - (gAt (seqG l i) m).1 := w64in _ (by omega) (by omega)
      have hc0 : ((gAt l i).1 - (gAt (seqG l i) m).1 < 0) = True := by first | (simp; omega) | simp
      have hp : (((m + 1 : Nat) : Int) > 0) = True := eq_true (by omega)
      have hp2 : (0 < ((m + 1 : Nat) : Int)) = True := eq_true (by omega)
      have hm1 : wrap64 (((m + 1 : Nat) : Int) - 1) = (m : Int) := by rw [w64in _ (by omega) (by omega)]; omega
      have ht : (((m + 1 : Nat) : Int)).toNat = m + 1 := by omega
      have hjl : 0 ≤ ((m + 1 : Nat) : Int) ∧ ((m + 1 : Nat) : Int) < l.length := by omega
      have hml : (m : Int) < l.length := by omega
      have hml2 : m + 1 < l.length := by omega
      clear hsw eD eD' em em2 hJ hJ2 hgt hs1 hs2 hlD h0
      generalize gAt (seqG l i) m = y at *
      generalize gAt l i = x at *
      generalize ((m + 1 : Nat) : Int) = jj at *
      simp (maxSteps := 4000000) (disch := (first | with_reducible rfl | assumption | omega | (simp only [List.length_append, List.length_map, List.length_cons, List.length_nil, List.length_set, List.length_replicate, List.length_take, List.size_toArray]; omega))) [E_QIns, hD, d1, d0, hw, hc0, hp, hp2, hm1, ht, hjl, hml, nilOp]
      refine again_of ?_ IH2
      simp only [E_QIns, firstR, mkQ_keep, keepT, List.find?, Nat.reduceBEq, Option.map_some, Option.getD_some]
      simp (maxSteps := 4000000) (disch := (first | with_reducible rfl | assumption | omega | (simp only [List.length_append, List.length_map, List.length_cons, List.length_nil, List.length_set, List.length_replicate, List.length_take, List.size_toArray]; omega))) [E_QIns]
    · simp only [C]
      have hws : wrap64 ((i : Int) + 1) = ((i + 1 : Nat) : Int) := wsucc (by omega)
      have eJ : i - (i - insJ (seqG l i) (gAt l i)) = insJ (seqG l i) (gAt l i) := by omega
      rw [eJ]
      have hlt2 := fun j (h : j < insJ (seqG l i) (gAt l i)) => insJ_lt h
      generalize insJ (seqG l i) (gAt l i) = J at *
      by_cases hJ0 : J = 0
      · subst hJ0
        generalize (inG l i 0).flatMap cG = D at *
        simp (maxSteps := 4000000) (disch := (first | with_reducible rfl | assumption | omega | (simp only [List.length_append, List.length_map, List.length_cons, List.length_nil, List.length_set, List.length_replicate, List.length_take, List.size_toArray]; omega))) [E_QIns, hws]
        refine again_of ?_ IH
        simp only [E_QIns, firstR, mkQ_keep, keepT, List.find?, Nat.reduceBEq, Option.map_some, Option.getD_some]
        simp (maxSteps := 4000000) (disch := (first | with_reducible rfl | assumption | omega | (simp only [List.length_append, List.length_map, List.length_cons, List.length_nil, List.length_set, List.length_replicate, List.length_take, List.size_toArray]; omega))) [E_QIns]
      · obtain ⟨m, rfl⟩ : ∃ m, J = m + 1 := ⟨J - 1, by omega⟩
        obtain ⟨D, D', eD, eD', d1, d0, hsw, hD⟩ := in_facts hi2 (show m < i by omega)
        rw [eD] at IH ⊢
        have hgt := hlt2 m (by omega)
        have hs1 := small_at hsm hi2
        have hs2 := small_at (small_seq hsm i (Nat.le_of_lt hi2)) (show m < (seqG l i).length by omega)
        have hw : wrap64 ((gAt l i).1 - (gAt (seqG l i) m).1) = (gAt l i).1 - (gAt (seqG l i) m).1 := w64in _ (by omega) (by omega)
        have hc0 : ((gAt l i).1 - (gAt (seqG l i) m).1 < 0) = False := by first | (simp; omega) | simp
        have hp : (((m + 1 : Nat) : Int) > 0) = True := eq_true (by omega)
        have hp2 : (0 < ((m + 1 : Nat) : Int)) = True := eq_true (by omega)
        have hm1 : wrap64 (((m + 1 : Nat) : Int) - 1) = (m : Int) := by rw [w64in _ (by omega) (by omega)]; omega
        have ht : (((m + 1 : Nat) : Int)).toNat = m + 1 := by omega
        have hjl : 0 ≤ ((m + 1 : Nat) : Int) ∧ ((m + 1 : Nat) : Int) < l.length := by omega
        have hml : (m : Int) < l.length := by omega
        have hml2 : m + 1 < l.length := by omega
        clear hsw eD eD' hJ hJ2 hgt hs1 hs2 hlD h0 hlt2 eJ
        generalize gAt (seqG l i) m = y at *
        generalize gAt l i = x at *
        generalize ((m + 1 : Nat) : Int) = jj at *
        simp (maxSteps := 4000000) (disch := (first | with_reducible rfl | assumption | omega | (simp only [List.length_append, List.length_map, List.length_cons, List.length_nil, List.length_set, List.length_replicate, List.length_take, List.size_toArray]; omega))) [E_QIns, hD, d1, d0, hw, hc0, hp, hp2, hm1, ht, hjl, hml, nilOp, hws]
        refine again_of ?_ IH
        simp only [E_QIns, firstR, mkQ_keep, keepT, List.find?, Nat.reduceBEq, Option.map_some, Option.getD_some]
        simp (maxSteps := 4000000) (disch := (first | with_reducible rfl | assumption | omega | (simp only [List.length_append, List.length_map, List.length_cons, List.length_nil, List.length_set, List.length_replicate, List.length_take, List.size_toArray]; omega))) [E_QIns]
  · simp only [C]
    have e : l.length - 1 + 1 = l.length := by omega
    have hs : (seqG l l.length).length = l.length := seqG_len (Nat.le_refl _)
    rw [e, List.drop_length, List.append_nil]
    simp (maxSteps := 4000000) (disch := (first | with_reducible rfl | assumption | omega | (simp only [List.length_append, List.length_map, List.length_cons, List.length_nil, List.length_set, List.length_replicate, List.length_take, List.size_toArray]; omega))) [E_QIns, hl]
theorem qQIns : GoodQ (20, QIns) := by
  intro xs h z r h' z' hr
  simp only at hr
  unfold QIns at hr
  split at hr
  · obtain ⟨l, h_l, hr⟩ := Option.bind_eq_some_iff.1 hr
    split at hr
    · rename_i hc
      cases hr
      obtain ⟨rfl, rfl, rfl⟩ := decQ2_out h_l
      exact okR_ends (mkQ_ok (alls_cons sMCmp alls_nil) allq_nil) mixed Try.func20 rfl (by kernel_rfl : Fits Try.prog E_QIns.ref E_QIns.dep Try.f20 = true) (run_QIns _ _ rfl hc)
    · cases hr
  · cases hr
attribute [simp] QIns
end Go.Proofs.Ytpbaloceljfaoaa.ZRat
