import Derived.Test.YtpbaloceljfaoaaLt
import Derived.Test.YtpbaloceljfaoaaXPsG
import Derived.Test.YtpbaloceljfaoaaXPsG
set_option linter.unusedVariables false
set_option linter.unusedSimpArgs false
namespace Go.Proofs.Ytpbaloceljfaoaa.ZRat
open Go.RowKit Go.Proofs.Ytpbaloceljfaoaa.Wd
open Go Go.Proofs.Ytpbaloceljfaoaa.Ab Go.Proofs
set_option linter.unusedSimpArgs false
set_option linter.unusedVariables false
set_option maxHeartbeats 8000000
set_option maxRecDepth 100000
theorem u64in (n : Int) (h : 0 ≤ n) (h1 : n < 18446744073709551616) : IntKind.u64.wrap n = n := by
  simp [IntKind.wrap, IntKind.signed, IntKind.bits]; omega
def BLen : List AV → Option AV
  | [.int .u64 0] => some (.int .i64 0)
  | [.int .u64 1] => some (.int .i64 1)
  | [.int .u64 2] => some (.int .i64 2)
  | [.int .u64 3] => some (.int .i64 2)
  | [.int .u64 4] => some (.int .i64 3)
  | [.int .u64 5] => some (.int .i64 3)
  | [.int .u64 6] => some (.int .i64 3)
  | [.int .u64 7] => some (.int .i64 3)
  | [.int .u64 8] => some (.int .i64 4)
  | [.int .u64 9] => some (.int .i64 4)
  | [.int .u64 10] => some (.int .i64 4)
  | _ => none
noncomputable def BLen_env : Nat → FuncId → Env := envT [17, 29, 28] [] [] [] []
theorem fitBLen : fitsT [17, 29, 28] [] [] = true := by kernel_rfl
theorem run_BLen0 : bodyV (BLen_env 10 17) 10 Try.f17 [.int .u64 0] = some (.int .i64 0) := by kernel_rfl
theorem run_BLen1 : bodyV (BLen_env 10 17) 10 Try.f17 [.int .u64 1] = some (.int .i64 1) := by kernel_rfl
theorem run_BLen2 : bodyV (BLen_env 10 17) 10 Try.f17 [.int .u64 2] = some (.int .i64 2) := by kernel_rfl
theorem run_BLen3 : bodyV (BLen_env 10 17) 10 Try.f17 [.int .u64 3] = some (.int .i64 2) := by kernel_rfl
theorem run_BLen4 : bodyV (BLen_env 10 17) 10 Try.f17 [.int .u64 4] = some (.int .i64 3) := by kernel_rfl
theorem run_BLen5 : bodyV (BLen_env 10 17) 10 Try.f17 [.int .u64 5] = some (.int .i64 3) := by kernel_rfl
theorem run_BLen6 : bodyV (BLen_env 10 17) 10 Try.f17 [.int .u64 6] = some (.int .i64 3) := by kernel_rfl
theorem run_BLen7 : bodyV (BLen_env 10 17) 10 Try.f17 [.int .u64 7] = some (.int .i64 3) := by kernel_rfl
theorem run_BLen8 : bodyV (BLen_env 10 17) 10 Try.f17 [.int .u64 8] = some (.int .i64 4) := by kernel_rfl
theorem run_BLen9 : bodyV (BLen_env 10 17) 10 Try.f17 [.int .u64 9] = some (.int .i64 4) := by kernel_rfl
theorem run_BLen10 : bodyV (BLen_env 10 17) 10 Try.f17 [.int .u64 10] = some (.int .i64 4) := by kernel_rfl
theorem sBLen : GoodS (17, BLen) := by
  intro xs r h
  simp only at h
  unfold BLen at h
  split at h
  · cases h; exact .inl (okV_kr fitBLen alls_nil (by kernel_rfl) Try.func17 run_BLen0)
  · cases h; exact .inl (okV_kr fitBLen alls_nil (by kernel_rfl) Try.func17 run_BLen1)
  · cases h; exact .inl (okV_kr fitBLen alls_nil (by kernel_rfl) Try.func17 run_BLen2)
  · cases h; exact .inl (okV_kr fitBLen alls_nil (by kernel_rfl) Try.func17 run_BLen3)
  · cases h; exact .inl (okV_kr fitBLen alls_nil (by kernel_rfl) Try.func17 run_BLen4)
  · cases h; exact .inl (okV_kr fitBLen alls_nil (by kernel_rfl) Try.func17 run_BLen5)
  · cases h; exact .inl (okV_kr fitBLen alls_nil (by kernel_rfl) Try.func17 run_BLen6)
  · cases h; exact .inl (okV_kr fitBLen alls_nil (by kernel_rfl) Try.func17 run_BLen7)
  · cases h; exact .inl (okV_kr fitBLen alls_nil (by kernel_rfl) Try.func17 run_BLen8)
  · cases h; exact .inl (okV_kr fitBLen alls_nil (by kernel_rfl) Try.func17 run_BLen9)
  · cases h; exact .inl (okV_kr fitBLen alls_nil (by kernel_rfl) Try.func17 run_BLen10)
  · cases h
attribute [simp] BLen
open Classical in
noncomputable def QPdq : List AV → List Blk → List Bool → Option (AV × List Blk × List Bool)
  | [.own 0 0 n 3, .int .i64 0, .int .i64 m, .int .i64 v, .fn 10], [.arr cs], [false] => (decQ2 n m cs).bind fun l => if 1 ≤ l.length ∧ l.length ≤ 10 ∧ smallG l then some (.tup [], [.arr ((seqG l l.length).flatMap cG), .dead], [false, false]) else none
  | _, _, _ => none
noncomputable def E_QPdq : Env := mkQ [] [(20, QIns)] [(2, [0, 1, 2, 3, 4, 10, 11])] []
theorem run_QPdq (l : List G3) (n : Nat) (v : Int) (hn : n = l.length) (hb : 1 ≤ l.length ∧ l.length ≤ 10 ∧ smallG l) : AEnds E_QPdq (finR Try.prog Try.f16.results) 1 [.code (Try.f16.body.getD .skip)] (startA Try.f16 [.own 0 0 l.length 3, .int .i64 0, .int .i64 l.length, .int .i64 v, .fn 10] [.arr (l.flatMap cG)] [false]) (.tup [], [.arr ((seqG l l.length).flatMap cG), .dead], [false, false]) := by
  simp only [Try.f16, Option.getD_some, startA]
  obtain ⟨hb1, hb2, hsm⟩ := hb
  have hw : wrap64 ((l.length : Int) - 0) = (l.length : Int) := by rw [w64in _ (by omega) (by omega)]; omega
  have hw2 : wrap64 (l.length : Int) = (l.length : Int) := w64in _ (by omega) (by omega)
  have hle : ((l.length : Int) ≤ 12) = True := eq_true (by omega)
  have h12 : l.length ≤ 12 := by omega
  simp (maxSteps := 4000000) (disch := (first | with_reducible rfl | assumption | omega | (simp only [List.length_append, List.length_map, List.length_cons, List.length_nil, List.length_set, List.length_replicate, List.length_take, List.size_toArray]; omega))) [E_QPdq, hw, hw2, hle]
  refine .loop ?_
  simp only [E_QPdq, firstR, mkQ_keep, keepT, List.find?, Nat.reduceBEq, Option.map_some, Option.getD_some]
  simp (maxSteps := 4000000) (disch := (first | with_reducible rfl | assumption | omega | (simp only [List.length_append, List.length_map, List.length_cons, List.length_nil, List.length_set, List.length_replicate, List.length_take, List.size_toArray]; omega))) [E_QPdq, hw, hw2, hle, hb1, h12, hsm]
theorem qQPdq : GoodQ (16, QPdq) := by
  intro xs h z r h' z' hr
  simp only at hr
  unfold QPdq at hr
  split at hr
  · obtain ⟨l, h_l, hr⟩ := Option.bind_eq_some_iff.1 hr
    split at hr
    · rename_i hc
      cases hr
      obtain ⟨rfl, rfl, rfl⟩ := decQ2_out h_l
      exact okR_ends (mkQ_ok alls_nil (allq_cons qQIns allq_nil)) mixed Try.func16 rfl (by kernel_rfl : Fits Try.prog E_QPdq.ref E_QPdq.dep Try.f16 = true) (run_QPdq _ _ _ rfl hc)
    · cases hr
  · cases hr
attribute [simp] QPdq
open Classical in
noncomputable def QSF : List AV → List Blk → List Bool → Option (AV × List Blk × List Bool)
  | [.own 0 0 n 3, .fn 10], [.arr cs], [false] => (decQ n cs).bind fun l => if 1 ≤ l.length ∧ l.length ≤ 10 ∧ smallG l then some (.tup [], [.arr ((seqG l l.length).flatMap cG), .dead], [false, false]) else none
  | _, _, _ => none
noncomputable def E_QSF : Env := mkQ [(17, BLen)] [(16, QPdq)] [] []
theorem run_QSF (l : List G3) (n : Nat) (hn : n = l.length) (hb : 1 ≤ l.length ∧ l.length ≤ 10 ∧ smallG l) : AEnds E_QSF (finR Try.prog Try.f9.results) 1 [.code (Try.f9.body.getD .skip)] (startA Try.f9 [.own 0 0 l.length 3, .fn 10] [.arr (l.flatMap cG)] [false]) (.tup [], [.arr ((seqG l l.length).flatMap cG), .dead], [false, false]) := by
  simp only [Try.f9, Option.getD_some, startA]
  obtain ⟨hb1, hb2, hsm⟩ := hb
  have hu : IntKind.u64.wrap (l.length : Int) = (l.length : Int) := u64in _ (by omega) (by omega)
  have hc : l.length = 1 ∨ l.length = 2 ∨ l.length = 3 ∨ l.length = 4 ∨ l.length = 5 ∨ l.length = 6 ∨ l.length = 7 ∨ l.length = 8 ∨ l.length = 9 ∨ l.length = 10 := by omega
  have hq2 := decQ2_of l
  generalize hE : l.flatMap cG = D at *
  generalize hE2 : (seqG l l.length).flatMap cG = D2 at *
  have hbl : ∃ v, BLen [.int .u64 (l.length : Int)] = some (.int .i64 v) := by
    rcases hc with h | h | h | h | h | h | h | h | h | h <;> rw [h] <;> exact ⟨_, rfl⟩
  obtain ⟨v, hbl⟩ := hbl
  simp (maxSteps := 4000000) (disch := (first | with_reducible rfl | assumption | omega | (simp only [List.length_append, List.length_map, List.length_cons, List.length_nil, List.length_set, List.length_replicate, List.length_take, List.size_toArray]; omega))) [E_QSF, hu, hbl, hb1, hb2, hsm, hq2, hE2, -BLen]
theorem qQSF : GoodQ (9, QSF) := by
  intro xs h z r h' z' hr
  simp only at hr
  unfold QSF at hr
  split at hr
  · obtain ⟨l, h_l, hr⟩ := Option.bind_eq_some_iff.1 hr
    split at hr
    · rename_i hc
      cases hr
      obtain ⟨rfl, rfl⟩ := decQ_out h_l
      exact okR_ends (mkQ_ok (alls_cons sBLen alls_nil) (allq_cons qQPdq allq_nil)) mixed Try.func9 rfl (by kernel_rfl : Fits Try.prog E_QSF.ref E_QSF.dep Try.f9 = true) (run_QSF _ _ rfl hc)
    · cases hr
  · cases hr
attribute [simp] QSF
end Go.Proofs.Ytpbaloceljfaoaa.ZRat
