/- Which fraction any text is of, and which is of none, is as the document says. -/
import Derived.Test.YthkiklpcglogpaaC2
import Derived.Test.YthkiklpcglogpaaC3
import Derived.Test.YthkiklpcglogpaaC7
import Derived.Test.YthkiklpcglogpaaC8
import Derived.Test.YthkiklpcglogpaaC9
import Derived.Shelf.Strings.Search2
set_option linter.unusedVariables false
set_option linter.unusedSimpArgs false
namespace Go.Proofs.Ythkiklpcglogpaa.ZRat
open Go.RowKit Go.Proofs.Ythkiklpcglogpaa.Wd
open Go Go.Proofs.Ythkiklpcglogpaa.Ab Go.Proofs Go.Proofs.Ythkiklpcglogpaa.Num Go.Proofs.Ythkiklpcglogpaa.ZRatP
set_option linter.unusedSimpArgs false
set_option linter.unusedVariables false
set_option maxHeartbeats 8000000
set_option maxRecDepth 100000
theorem NBd (n : Nat) (h0 : 0 < n) (h : n < 10) : NB 10 n = [(n : Int)] := by
  rw [NB_pos (by omega) h0, Nat.mod_eq_of_lt h, Nat.div_eq_of_lt h, NB_zero]
theorem show_live : showP (-3) 2 = (⟨#[45, 51, 47, 50]⟩ : ByteArray) := by
  unfold showP showZ showS decS
  rw [if_neg (by omega), if_pos (by omega), show (-3 : Int).natAbs = 3 from rfl, if_neg (by omega), if_neg (by omega), NBd 3 (by omega) (by omega), NBd 2 (by omega) (by omega)]
  rfl
theorem IVal_trueN (n : Nat) : IVal true (NB 4294967296 n) = -(n : Int) := by unfold IVal; rw [VBN]; rfl
theorem live1 : ((6 : Rat) / -4).num = -3 ∧ ((6 : Rat) / -4).den = 2 := by decide +kernel
theorem live2 : (mkRat (-3) 2).num = -3 ∧ (mkRat (-3) 2).den = 2 := by decide +kernel
noncomputable def L5short : List AV → Option AV
  | [x0] => (ratX x0).bind fun a0 => some (.agg [.bool a0.1, rowI .u32 (cut 6 a0.2.1), rowI .u32 (cut 6 a0.2.2)])
  | _ => none
noncomputable def E_L5short : Env := mkS [] [] [(6, [([], [], false), ([], [], false), ([], [], true), ([], [], false), ([], [], false), ([0], [2], true), ([], [], false), ([], [5], false), ([], [], false), ([0, 1, 2], [2], false), ([], [], false), ([0, 1, 2, 3], [], false)])]
theorem run_L5short (s0 : Bool) (l0 m0 : List Int) : AEnds E_L5short (finW Try.prog Try.f5.results) 0 [.code (Try.f5.body.getD .skip)] (startA Try.f5 [.agg [.bool s0, rowI .u32 l0, rowI .u32 m0]] [] []) (.agg [.bool s0, rowI .u32 (cut 6 l0), rowI .u32 (cut 6 m0)]) := by
  simp only [Try.f5, Option.getD_some, startA]
  simp only [cut]
  by_cases h1 : 6 < l0.length
  · have e1 : (l0.take 6).length = 6 := by simp; omega
    by_cases h2 : 6 < m0.length
    · have e2 : (m0.take 6).length = 6 := by simp; omega
      simp (maxSteps := 4000000) (disch := (first | with_reducible rfl | assumption | with_reducible exact WB_NB _ _ | (with_reducible refine nb_le ?_; omega) | (with_reducible refine nb16_le ?_; omega) | omega | (simp only [List.length_append, List.length_map, List.length_cons, List.length_nil, List.length_set, List.length_replicate, List.length_take, List.size_toArray]; omega))) [E_L5short, h1, h2, e1, e2]
    · rw [List.take_of_length_le (l := m0) (by omega)]
      simp (maxSteps := 4000000) (disch := (first | with_reducible rfl | assumption | with_reducible exact WB_NB _ _ | (with_reducible refine nb_le ?_; omega) | (with_reducible refine nb16_le ?_; omega) | omega | (simp only [List.length_append, List.length_map, List.length_cons, List.length_nil, List.length_set, List.length_replicate, List.length_take, List.size_toArray]; omega))) [E_L5short, h1, h2, e1]
  · rw [List.take_of_length_le (l := l0) (by omega)]
    by_cases h2 : 6 < m0.length
    · have e2 : (m0.take 6).length = 6 := by simp; omega
      simp (maxSteps := 4000000) (disch := (first | with_reducible rfl | assumption | with_reducible exact WB_NB _ _ | (with_reducible refine nb_le ?_; omega) | (with_reducible refine nb16_le ?_; omega) | omega | (simp only [List.length_append, List.length_map, List.length_cons, List.length_nil, List.length_set, List.length_replicate, List.length_take, List.size_toArray]; omega))) [E_L5short, h1, h2, e2]
    · rw [List.take_of_length_le (l := m0) (by omega)]
      simp (maxSteps := 4000000) (disch := (first | with_reducible rfl | assumption | with_reducible exact WB_NB _ _ | (with_reducible refine nb_le ?_; omega) | (with_reducible refine nb16_le ?_; omega) | omega | (simp only [List.length_append, List.length_map, List.length_cons, List.length_nil, List.length_set, List.length_replicate, List.length_take, List.size_toArray]; omega))) [E_L5short, h1, h2]
theorem sL5short : GoodS (5, L5short) := by
  intro xs r h
  simp only at h
  unfold L5short at h
  split at h
  · obtain ⟨a0, h0, h⟩ := Option.bind_eq_some_iff.1 h
    cases h
    obtain rfl := ratX_out h0
    obtain ⟨s0, l0, m0⟩ := a0
    exact .inl <| okW_ends (mkS_ok alls_nil) mixed Try.func5 rfl (by kernel_rfl : Fits Try.prog E_L5short.ref E_L5short.dep Try.f5 = true) (run_L5short _ _ _)
  · cases h
attribute [simp] L5short
noncomputable def L5lives : List AV → Option AV
  | [] => some (.bool true)
  | _ => none
noncomputable def E_L5lives : Env := mkS [(29, RMake), (30, RRound), (6, RShow)] [] []
theorem run_L5lives  : AEnds E_L5lives (finW Try.prog Try.f11.results) 0 [.code (Try.f11.body.getD .skip)] (startA Try.f11 [] [] []) (.bool true) := by
  simp only [Try.f11, Option.getD_some, startA]
  simp (maxSteps := 4000000) (disch := (first | with_reducible rfl | assumption | with_reducible exact WB_NB _ _ | (with_reducible refine nb_le ?_; omega) | (with_reducible refine nb16_le ?_; omega) | omega | (simp only [List.length_append, List.length_map, List.length_cons, List.length_nil, List.length_set, List.length_replicate, List.length_take, List.size_toArray]; omega))) [E_L5lives, roundQ, live1.1, live1.2, live2.1, live2.2, IVal_trueN, show_live]
theorem sL5lives : GoodS (11, L5lives) := by
  intro xs r h
  simp only at h
  unfold L5lives at h
  split at h
  · skip
    cases h
    exact .inl <| okW_ends (mkS_ok (alls_cons sRMake (alls_cons sRRound (alls_cons sRShow alls_nil)))) mixed Try.func11 rfl (by kernel_rfl : Fits Try.prog E_L5lives.ref E_L5lives.dep Try.f11 = true) (run_L5lives )
  · cases h
attribute [simp] L5lives
end Go.Proofs.Ythkiklpcglogpaa.ZRat
namespace Go.Proofs.Ythkiklpcglogpaa.ZRat
open Go.RowKit Go.Proofs.Ythkiklpcglogpaa.Wd
open Go Go.Proofs.Ythkiklpcglogpaa.Ab Go.Proofs Go.Proofs.Ythkiklpcglogpaa.Num
set_option linter.unusedSimpArgs false
set_option linter.unusedVariables false
def bc (s : ByteArray) (i : Int) : UInt8 := s.data[i.toNat]?.getD 0
theorem get_bc (s : ByteArray) (i : Int) (h0 : 0 ≤ i) (h1 : i < (s.size : Int)) : s.data[i.toNat]? = some (bc s i) := by
  have h : i.toNat < s.data.size := by have : s.data.size = s.size := rfl; omega
  unfold bc
  rw [Array.getElem?_eq_getElem h]; rfl
theorem get_bc0 (s : ByteArray) (h1 : (0 : Int) < (s.size : Int)) : s.data[0]? = some (bc s 0) := get_bc s 0 (Int.le_refl _) h1
theorem bc_bt (s : ByteArray) (i : Int) : ((bc s i).toNat : Int) = bt s i := by
  unfold bc bt
  by_cases h : i.toNat < s.size
  · have h' : i.toNat < s.data.size := h
    rw [dif_pos h, Array.getElem?_eq_getElem h']; rfl
  · have h' : ¬ i.toNat < s.data.size := h
    rw [dif_neg h, Array.getElem?_eq_none (by omega)]; rfl
theorem nil_bytes (s : ByteArray) : (s = ByteArray.empty) = (s.toList = []) := by
  rw [toList_data]
  refine propext ⟨fun h => by rw [h]; rfl, fun h => ?_⟩
  apply ByteArray.ext; apply Array.ext'; rw [h]; rfl
theorem nil_bytes' (s : ByteArray) : (s = ⟨#[]⟩) = (s.toList = []) := nil_bytes s
theorem w64b (n : Int) : wrap64 (n % 256) = n % 256 := by unfold wrap64; omega
theorem isEmp (s : ByteArray) : s.toList.isEmpty = decide (s.toList = []) := by cases s.toList <;> rfl
theorem u64b (n : Int) : IntKind.u64.wrap (n % 256) = n % 256 := by simp [IntKind.wrap, IntKind.signed, IntKind.bits]; omega
theorem bytes_row (s : ByteArray) : s.data.toList.map (fun c => AV.int .u8 (c.toNat : Int)) = (Wd.bytesOf s).map (.int .u8) := by simp [Wd.bytesOf]
theorem bytes_len (s : ByteArray) : (Wd.bytesOf s).length = s.size := bytesOf_length s
attribute [simp] w64b isEmp u64b bytes_row bytes_len
attribute [simp high] get_bc get_bc0
attribute [simp] bc_bt nil_bytes nil_bytes'
end Go.Proofs.Ythkiklpcglogpaa.ZRat
/- The reference's Trim, by reference. -/
namespace Go.Proofs.Ythkiklpcglogpaa.ZRat
open Go.RowKit Go.Proofs.Ythkiklpcglogpaa.Wd
open Go Go.Proofs.Ythkiklpcglogpaa.Ab Go.Proofs
set_option linter.unusedSimpArgs false
set_option linter.unusedVariables false
set_option maxHeartbeats 4000000
set_option maxRecDepth 10000
theorem dtrim_l0_pre : ∀ (k : Nat) (l : List Int) (x : Int) (r : List Int), zelligeref03_Trim.l0 k l x = some r → ∃ n, n ≤ l.length ∧ r = l.take n
  | 0, _, _, _, h => by simp [zelligeref03_Trim.l0] at h
  | k + 1, l, x, r, h => by
    have ih := dtrim_l0_pre k l
    simp only [zelligeref03_Trim.l0] at h
    repeat' split at h
    all_goals first | (simp only [reduceCtorEq] at h; done) | (with_reducible obtain rfl := Option.some.inj h; exact ⟨_, by omega, rfl⟩) | exact ih _ _ h
theorem dtrim_pre {k : Nat} {l r : List Int} (h : zelligeref03_Trim.f k l = some r) : ∃ t, l = r ++ t := by
  obtain ⟨n, _, rfl⟩ := dtrim_l0_pre k l _ r h
  exact ⟨l.drop n, (List.take_append_drop n l).symm⟩
theorem n33R_ls (T : List AV) (r : (List Int)) (k : Nat) : (∀ (x0 : List Int) (x3 : Int), zelligeref03_Trim.l0 k x0 x3 = some r → AEnds E33 (finR Try.prog Try.f33.results) 1 (atLoop Try.f33 2) ⟨fr 21 [(0, .own 0 0 x0.length 1), (3, .int .i64 x3)], [.arr (x0.map (.int .i64) ++ T)], [false]⟩ (.own 0 0 r.length 1, [.arr (x0.map (.int .i64) ++ T)], [false])) := by
  induction k using Nat.strongRecOn with
  | _ k ih =>
  intro x0 x3 h
  cases k with
  | zero => simp [zelligeref03_Trim.l0] at h
  | succ k1 =>
  simp only [zelligeref03_Trim.l0] at h
  simp only [Try.f33, atLoop, seek, firstR, reduceIte, Option.getD_some, Nat.reduceEqDiff]
  rcases ite_some h with ⟨c2, h⟩ | ⟨c2, h⟩
  · rcases ite_some h with ⟨c3, h⟩ | ⟨c3, h⟩
    · rcases ite_some h with ⟨c4, h⟩ | ⟨c4, h⟩
      · rcases ite_some h with ⟨c5, h⟩ | ⟨c5, h⟩
        · simp (maxSteps := 2000000) (disch := (first | omega | (simp only [List.length_append, List.length_map, List.length_cons, List.length_nil, List.length_set, List.length_replicate, List.length_take, List.size_toArray]; omega))) [E33, c2, c3, c4, c5]
          refine AEnds.againS ((ih k1 (by omega)) _ _  h) ?_
          simp only [E33, firstR, mk_keep, keepT, List.find?, Nat.reduceBEq, Option.map_some, Option.getD_some]
          simp (maxSteps := 2000000) (disch := (first | omega | (simp only [List.length_append, List.length_map, List.length_cons, List.length_nil, List.length_set, List.length_replicate, List.length_take, List.size_toArray]; omega))) [E33, c2, c3, c4, c5]
          try omega
        · rcases ite_some h with ⟨c6, h⟩ | ⟨c6, h⟩
          · rcases ite_some h with ⟨c7, h⟩ | ⟨c7, h⟩
            · obtain rfl := Option.some.inj h
              simp (maxSteps := 2000000) (disch := (first | omega | (simp only [List.length_append, List.length_map, List.length_cons, List.length_nil, List.length_set, List.length_replicate, List.length_take, List.size_toArray]; omega))) [E33, c2, c3, c4, c5, c6, c7]
              try omega
            · cases h
          · cases h
      · cases h
    · cases h
  · rcases ite_some h with ⟨c8, h⟩ | ⟨c8, h⟩
    · rcases ite_some h with ⟨c9, h⟩ | ⟨c9, h⟩
      · obtain rfl := Option.some.inj h
        simp (maxSteps := 2000000) (disch := (first | omega | (simp only [List.length_append, List.length_map, List.length_cons, List.length_nil, List.length_set, List.length_replicate, List.length_take, List.size_toArray]; omega))) [E33, c2, c8, c9]
        try omega
      · cases h
    · cases h
theorem n33R_run (T : List AV) (k : Nat) (l0 : List Int) (r : (List Int)) (h : zelligeref03_Trim.f k l0 = some r) : AEnds E33 (finR Try.prog Try.f33.results) 1 [.code (Try.f33.body.getD .skip)] (startA Try.f33 [.own 0 0 l0.length 1] [.arr (l0.map (.int .i64) ++ T)] [false]) (.own 0 0 r.length 1, [.arr (l0.map (.int .i64) ++ T)], [false]) := by
  unfold zelligeref03_Trim.f at h
  simp only [Try.f33, Option.getD_some, startA]
  simp (maxSteps := 2000000) (disch := (first | omega | (simp only [List.length_append, List.length_map, List.length_cons, List.length_nil, List.length_set, List.length_replicate, List.length_take, List.size_toArray]; omega))) [E33]
  refine AEnds.loopS (n33R_ls T _ _ _ _ h) ?_
  simp only [E33, firstR, mk_keep, keepT, List.find?, Nat.reduceBEq, Option.map_some, Option.getD_some]
  simp (maxSteps := 2000000) (disch := (first | omega | (simp only [List.length_append, List.length_map, List.length_cons, List.length_nil, List.length_set, List.length_replicate, List.length_take, List.size_toArray]; omega))) [E33]
noncomputable def SRD : List AV → List Blk → List Bool → Option (AV × List Blk × List Bool)
  | [.own 0 0 n 1], [.arr cs], [false] => (unC .i64 cs).bind fun l => if n ≤ l.length then (pick fun k => zelligeref03_Trim.f k (l.take n)).map fun r => (.own 0 0 r.length 1, [.arr cs], [false]) else none
  | _, _, _ => none
noncomputable def mkT (kt : List (Nat × List Nat)) (dt : List (Nat × List (List Nat × List Nat × Bool))) : Env := ⟨Try.prog, fun f => [33].contains f, fun _ _ => none, fun f xs h z => if [33].contains f then SRD xs h z else none, keepT kt, depT dt, fun _ _ => none⟩
section
variable {kt : List (Nat × List Nat)} {dt : List (Nat × List (List Nat × List Nat × Bool))}
theorem mkT_P : (mkT kt dt).P = Try.prog := rfl
theorem mkT_ref {f : FuncId} : (mkT kt dt).ref f = [33].contains f := rfl
theorem mkT_callR {f : FuncId} {xs : List AV} {h : List Blk} {z : List Bool} : (mkT kt dt).callR f xs h z = if [33].contains f then SRD xs h z else none := rfl
theorem mkT_keep {i : Nat} : (mkT kt dt).keep i = keepT kt i := rfl
theorem mkT_dep {i : Nat} : (mkT kt dt).dep i = depT dt i := rfl
theorem mkT_ok : EnvOk (mkT kt dt) Try.prog := by
  refine ⟨rfl, fun f xs r h => by simp [mkT] at h, fun f xs h z v h' z' hr => ?_, fun _ _ _ h => by simp [mkT] at h⟩
  simp only [mkT_callR] at hr
  split at hr
  · rename_i hc
    have hf : f = 33 := by simpa using hc
    subst hf
    unfold SRD at hr
    split at hr
    · rename_i n cs
      obtain ⟨l, hl, hr⟩ := Option.bind_eq_some_iff.1 hr
      split at hr
      · rename_i hn
        obtain ⟨q, hq, e⟩ := Option.map_eq_some_iff.1 hr
        obtain ⟨k, hk⟩ := of_pick hq
        have := n33R_run ((l.drop n).map (.int .i64)) k (l.take n) q hk
        rw [← List.map_append, List.take_append_drop, List.length_take, Nat.min_eq_left hn, ← unC_eq hl, e] at this
        exact okR_ends (mkE_ok all_nil all_nil) mixed Try.func33 rfl (by kernel_rfl : Fits Try.prog E33.ref E33.dep Try.f33 = true) this
      · cases hr
    · cases hr
  · cases hr
end
attribute [simp] SRD mkT_P mkT_ref mkT_callR mkT_keep mkT_dep
end Go.Proofs.Ythkiklpcglogpaa.ZRat
/- Of Go's library: the text's first place of one byte. -/
namespace Go.Proofs.Ythkiklpcglogpaa.ZRat
open Go.RowKit Go.Proofs.Ythkiklpcglogpaa.Wd
open Go Go.Proofs.Ythkiklpcglogpaa.Ab Go.Proofs Go.Proofs.Ythkiklpcglogpaa.Num Go.Proofs.Ythkiklpcglogpaa.ZRatP
set_option linter.unusedSimpArgs false
set_option linter.unusedVariables false
def laysIdx_ren : Go.Shelf.Ren := ⟨fun | 219 => 58 | 217 => 73 | 225 => 74 | 224 => 75 | 267 => 76 | 266 => 82 | 314 => 83 | n => n, fun | 9 => 9 | 3 => 3 | 4 => 4 | 5 => 5 | 46 => 78 | 146 => 108 | 51 => 54 | n => n, fun | 1 => 0 | n => n⟩
theorem laysIdx : Lays.n219 Try.prog laysIdx_ren := { mixed := by kernel_rfl, f217 := Try.func73.trans (congrArg some (by kernel_rfl)), f219 := Try.func58.trans (congrArg some (by kernel_rfl)), f224 := Try.func75.trans (congrArg some (by kernel_rfl)), f225 := Try.func74.trans (congrArg some (by kernel_rfl)), f266 := Try.func82.trans (congrArg some (by kernel_rfl)), f267 := Try.func76.trans (congrArg some (by kernel_rfl)), f314 := Try.func83.trans (congrArg some (by kernel_rfl)), t3 := Try.underlying3, a3 := Try.isAgg3, z3 := Try.sizeOf3, v3 := Try.zeroValue3, t4 := Try.underlying4, a4 := Try.isAgg4, z4 := Try.sizeOf4, v4 := Try.zeroValue4, t5 := Try.underlying5, a5 := Try.isAgg5, z5 := Try.sizeOf5, v5 := Try.zeroValue5, t9 := Try.underlying9, a9 := Try.isAgg9, z9 := Try.sizeOf9, v9 := Try.zeroValue9, t46 := Try.underlying78, a46 := Try.isAgg78, z46 := Try.sizeOf78, v46 := Try.zeroValue78, t51 := Try.underlying54, a51 := Try.isAgg54, z51 := Try.sizeOf54, v51 := Try.zeroValue54, t146 := Try.underlying108, a146 := Try.isAgg108, z146 := Try.sizeOf108, v146 := Try.zeroValue108, g1 := by kernel_rfl }
noncomputable def SIndex : List AV → Option AV
  | [.str s, .str t] => if t = ⟨#[47]⟩ then some (.int .i64 (Lib.indexByte s.data.toList 47)) else none
  | _ => none
theorem sSIndex : GoodS (58, SIndex) := by
  intro xs r h
  simp only at h
  unfold SIndex at h
  split at h
  · rename_i s t
    split at h
    case isFalse => cases h
    rename_i ht
    subst ht
    cases h
    refine .inl ⟨⟨Try.f58, Try.func58, rfl, rfl⟩, fun S w args hS ha => ?_⟩
    obtain ⟨h1, h2⟩ := ha
    obtain ⟨a, ha, va⟩ := h2 0 _ rfl
    obtain ⟨b, hb, vb⟩ := h2 1 _ rfl
    have : args = [a, b] := by
      match args, h1, ha, hb with
      | [a', b'], _, ha, hb => simp at ha hb; rw [ha, hb]
    subst this
    simp only [V2, V1, P1] at va vb
    subst va vb
    refine (Any.stringslite_Index_one laysIdx s 47 w).mono ?_
    rintro e w' ⟨rfl, rfl⟩
    refine ⟨_, S, rfl, ?_, ?_⟩
    · simp only [V3, V2, V1, P1]
    · exact ⟨rfl, rfl, rfl, Nat.le_refl _, fun _ _ => rfl, fun _ h => h, fun _ h => .inl h, hS⟩
  · cases h
end Go.Proofs.Ythkiklpcglogpaa.ZRat
namespace Go.Proofs.Ythkiklpcglogpaa.ZRat
open Go.RowKit Go.Proofs.Ythkiklpcglogpaa.Wd
open Go Go.Proofs.Ythkiklpcglogpaa.Ab Go.Proofs
set_option linter.unusedSimpArgs false
set_option linter.unusedVariables false
set_option maxHeartbeats 4000000
set_option maxRecDepth 10000
noncomputable def E19 : Env := mkE [] [] [(2, [0, 11, 12, 13]), (13, [0, 6, 42, 43]), (17, [0, 6, 8, 42, 43, 52, 53])] []
theorem n19_ls (r : (List Int × Int)) (k : Nat) : (∀ (x0 : ByteArray) (x11 : List Int) (x12 : Int) (x13 : Int), nat_Parse.l0 k x0 x11 x12 x13 = some r → AEnds E19 (finW Try.prog Try.f19.results) 0 (atLoop Try.f19 2) ⟨fr 81 [(0, (.str x0)), (11, (rowI .u8 x11)), (12, (.int .i64 x12)), (13, (.int .i64 x13))], [], []⟩ (.tup [(rowI .u32 r.1), (.int .i64 r.2)])) ∧ (∀ (x0 : ByteArray) (x6 : List Int) (x42 : Int) (x43 : Int), nat_Parse.l1 k x0 x6 x42 x43 = some r → AEnds E19 (finW Try.prog Try.f19.results) 0 (atLoop Try.f19 13) ⟨fr 81 [(0, (.str x0)), (6, .own 0 0 x6.length 1), (42, (.int .i64 x42)), (43, (.int .i64 x43))], [.arr ((x6).map (.int .u32))], [false]⟩ (.tup [(rowI .u32 r.1), (.int .i64 r.2)])) ∧ (∀ (x0 : ByteArray) (x6 : List Int) (x8 : Int) (x42 : Int) (x43 : Int) (x52 : Int) (x53 : Int), nat_Parse.l2 k x0 x6 x8 x42 x43 x52 x53 = some r → AEnds E19 (finW Try.prog Try.f19.results) 0 (atLoop Try.f19 17) ⟨fr 81 [(0, (.str x0)), (6, .own 0 0 x6.length 1), (8, (.int .u64 x8)), (42, (.int .i64 x42)), (43, (.int .i64 x43)), (52, (.int .i64 x52)), (53, (.int .i64 x53))], [.arr ((x6).map (.int .u32))], [false]⟩ (.tup [(rowI .u32 r.1), (.int .i64 r.2)])) ∧ (∀ (x0 : ByteArray) (x42 : Int) (x43 : Int), nat_Parse.l1 k x0 ([] : List Int) x42 x43 = some r → AEnds E19 (finW Try.prog Try.f19.results) 0 (atLoop Try.f19 13) ⟨fr 81 [(0, (.str x0)), (6, .nil), (42, (.int .i64 x42)), (43, (.int .i64 x43))], [], []⟩ (.tup [(rowI .u32 r.1), (.int .i64 r.2)])) ∧ (∀ (x0 : ByteArray) (x8 : Int) (x42 : Int) (x43 : Int) (x52 : Int) (x53 : Int), nat_Parse.l2 k x0 ([] : List Int) x8 x42 x43 x52 x53 = some r → AEnds E19 (finW Try.prog Try.f19.results) 0 (atLoop Try.f19 17) ⟨fr 81 [(0, (.str x0)), (6, .nil), (8, (.int .u64 x8)), (42, (.int .i64 x42)), (43, (.int .i64 x43)), (52, (.int .i64 x52)), (53, (.int .i64 x53))], [], []⟩ (.tup [(rowI .u32 r.1), (.int .i64 r.2)])) := by
  induction k using Nat.strongRecOn with
  | _ k ih =>
  refine ⟨?_, ?_, ?_, ?_, ?_⟩
  · intro x0 x11 x12 x13 h
    cases k with
    | zero => simp [nat_Parse.l0] at h
    | succ k1 =>
    simp only [nat_Parse.l0] at h
    simp only [Try.f19, atLoop, seek, firstR, reduceIte, Option.getD_some, Nat.reduceEqDiff]
    rcases ite_some h with ⟨c2, h⟩ | ⟨c2, h⟩
    · rcases ite_some h with ⟨c3, h⟩ | ⟨c3, h⟩
      · rcases ite_some h with ⟨c4, h⟩ | ⟨c4, h⟩
        · rcases ite_some h with ⟨c5, h⟩ | ⟨c5, h⟩
          · obtain rfl := Option.some.inj h
            simp (maxSteps := 2000000) (disch := (first | omega | (simp only [List.length_append, List.length_map, List.length_cons, List.length_nil, List.length_set, List.length_replicate, List.length_take, List.size_toArray]; omega))) [E19, c2, c3, c4, c5]
            try omega
          · rcases ite_some h with ⟨c6, h⟩ | ⟨c6, h⟩
            · obtain rfl := Option.some.inj h
              simp (maxSteps := 2000000) (disch := (first | omega | (simp only [List.length_append, List.length_map, List.length_cons, List.length_nil, List.length_set, List.length_replicate, List.length_take, List.size_toArray]; omega))) [E19, c2, c3, c4, c5, c6]
              try omega
            · simp (maxSteps := 2000000) (disch := (first | omega | (simp only [List.length_append, List.length_map, List.length_cons, List.length_nil, List.length_set, List.length_replicate, List.length_take, List.size_toArray]; omega))) [E19, c2, c3, c4, c5, c6]
              refine AEnds.againS ((ih k1 (by omega)).1 _ _ _ _  h) ?_
              simp only [E19, firstR, mk_keep, keepT, List.find?, Nat.reduceBEq, Option.map_some, Option.getD_some]
              simp (maxSteps := 2000000) (disch := (first | omega | (simp only [List.length_append, List.length_map, List.length_cons, List.length_nil, List.length_set, List.length_replicate, List.length_take, List.size_toArray]; omega))) [E19, c2, c3, c4, c5, c6]
              try omega
        · cases h
      · cases h
    · rcases ite_some h with ⟨c7, h⟩ | ⟨c7, h⟩
      · try simp only [List.length_cons, List.length_nil, Nat.zero_add, Nat.reduceAdd] at c7
        cases k1 with
        | zero => simp [nat_Parse.j1] at h
        | succ k8 =>
        simp only [nat_Parse.j1] at h
        rcases ite_some h with ⟨c9, h⟩ | ⟨c9, h⟩
        · obtain rfl := Option.some.inj h
          simp (maxSteps := 2000000) (disch := (first | omega | (simp only [List.length_append, List.length_map, List.length_cons, List.length_nil, List.length_set, List.length_replicate, List.length_take, List.size_toArray]; omega))) [E19, c2, c7]
          try omega
        · simp at c9
      · try simp only [List.length_cons, List.length_nil, Nat.zero_add, Nat.reduceAdd] at c7
        rcases ite_some h with ⟨c10, h⟩ | ⟨c10, h⟩
        · rcases ite_some h with ⟨c11, h⟩ | ⟨c11, h⟩
          · cases k1 with
            | zero => simp [nat_Parse.j1] at h
            | succ k12 =>
            simp only [nat_Parse.j1] at h
            rcases ite_some h with ⟨c13, h⟩ | ⟨c13, h⟩
            · simp only [decide_eq_true_eq] at c13
              obtain rfl := Option.some.inj h
              simp (maxSteps := 2000000) (disch := (first | omega | (simp only [List.length_append, List.length_map, List.length_cons, List.length_nil, List.length_set, List.length_replicate, List.length_take, List.size_toArray]; omega))) [E19, c2, c7, c10, c11, c13]
              try omega
            · simp only [decide_eq_true_eq] at c13
              rcases ite_some h with ⟨c14, h⟩ | ⟨c14, h⟩
              · obtain rfl := Option.some.inj h
                simp (maxSteps := 2000000) (disch := (first | omega | (simp only [List.length_append, List.length_map, List.length_cons, List.length_nil, List.length_set, List.length_replicate, List.length_take, List.size_toArray]; omega))) [E19, c2, c7, c10, c11, c13, c14]
                try omega
              · simp (maxSteps := 2000000) (disch := (first | omega | (simp only [List.length_append, List.length_map, List.length_cons, List.length_nil, List.length_set, List.length_replicate, List.length_take, List.size_toArray]; omega))) [E19, c2, c7, c10, c11, c13, c14]
                refine AEnds.loopS ((ih k12 (by omega)).2.2.2.1 _ _ _  h) ?_
                simp only [E19, firstR, mk_keep, keepT, List.find?, Nat.reduceBEq, Option.map_some, Option.getD_some]
                simp (maxSteps := 2000000) (disch := (first | omega | (simp only [List.length_append, List.length_map, List.length_cons, List.length_nil, List.length_set, List.length_replicate, List.length_take, List.size_toArray]; omega))) [E19, c2, c7, c10, c11, c13, c14]
                try omega
          · cases k1 with
            | zero => simp [nat_Parse.j1] at h
            | succ k15 =>
            simp only [nat_Parse.j1] at h
            rcases ite_some h with ⟨c16, h⟩ | ⟨c16, h⟩
            · simp at c16
            · rcases ite_some h with ⟨c17, h⟩ | ⟨c17, h⟩
              · obtain rfl := Option.some.inj h
                simp (maxSteps := 2000000) (disch := (first | omega | (simp only [List.length_append, List.length_map, List.length_cons, List.length_nil, List.length_set, List.length_replicate, List.length_take, List.size_toArray]; omega))) [E19, c2, c7, c10, c11, c17]
                try omega
              · simp (maxSteps := 2000000) (disch := (first | omega | (simp only [List.length_append, List.length_map, List.length_cons, List.length_nil, List.length_set, List.length_replicate, List.length_take, List.size_toArray]; omega))) [E19, c2, c7, c10, c11, c17]
                refine AEnds.loopS ((ih k15 (by omega)).2.2.2.1 _ _ _  h) ?_
                simp only [E19, firstR, mk_keep, keepT, List.find?, Nat.reduceBEq, Option.map_some, Option.getD_some]
                simp (maxSteps := 2000000) (disch := (first | omega | (simp only [List.length_append, List.length_map, List.length_cons, List.length_nil, List.length_set, List.length_replicate, List.length_take, List.size_toArray]; omega))) [E19, c2, c7, c10, c11, c17]
                try omega
        · cases h
  · intro x0 x6 x42 x43 h
    cases k with
    | zero => simp [nat_Parse.l1] at h
    | succ k18 =>
    simp only [nat_Parse.l1] at h
    simp only [Try.f19, atLoop, seek, firstR, reduceIte, Option.getD_some, Nat.reduceEqDiff]
    rcases ite_some h with ⟨c19, h⟩ | ⟨c19, h⟩
    · rcases ite_some h with ⟨c20, h⟩ | ⟨c20, h⟩
      · rcases ite_some h with ⟨c21, h⟩ | ⟨c21, h⟩
        · simp (maxSteps := 2000000) (disch := (first | omega | (simp only [List.length_append, List.length_map, List.length_cons, List.length_nil, List.length_set, List.length_replicate, List.length_take, List.size_toArray]; omega))) [E19, c19, c20, c21]
          refine AEnds.loopS ((ih k18 (by omega)).2.2.1 _ _ _ _ _ _ _  h) ?_
          simp only [E19, firstR, mk_keep, keepT, List.find?, Nat.reduceBEq, Option.map_some, Option.getD_some]
          simp (maxSteps := 2000000) (disch := (first | omega | (simp only [List.length_append, List.length_map, List.length_cons, List.length_nil, List.length_set, List.length_replicate, List.length_take, List.size_toArray]; omega))) [E19, c19, c20, c21]
          try omega
        · cases h
      · cases h
    · obtain rfl := Option.some.inj h
      simp (maxSteps := 2000000) (disch := (first | omega | (simp only [List.length_append, List.length_map, List.length_cons, List.length_nil, List.length_set, List.length_replicate, List.length_take, List.size_toArray]; omega))) [E19, c19]
      try omega
  · intro x0 x6 x8 x42 x43 x52 x53 h
    cases k with
    | zero => simp [nat_Parse.l2] at h
    | succ k22 =>
    simp only [nat_Parse.l2] at h
    simp only [Try.f19, atLoop, seek, firstR, reduceIte, Option.getD_some, Nat.reduceEqDiff]
    rcases ite_some h with ⟨c23, h⟩ | ⟨c23, h⟩
    · rcases ite_some h with ⟨c24, h⟩ | ⟨c24, h⟩
      · rcases ite_some h with ⟨c25, h⟩ | ⟨c25, h⟩
        · simp (maxSteps := 2000000) (disch := (first | omega | (simp only [List.length_append, List.length_map, List.length_cons, List.length_nil, List.length_set, List.length_replicate, List.length_take, List.size_toArray]; omega))) [E19, c23, c24, c25]
          refine AEnds.againS ((ih k22 (by omega)).2.2.1 _ _ _ _ _ _ _  h) ?_
          simp only [E19, firstR, mk_keep, keepT, List.find?, Nat.reduceBEq, Option.map_some, Option.getD_some]
          simp (maxSteps := 2000000) (disch := (first | omega | (simp only [List.length_append, List.length_map, List.length_cons, List.length_nil, List.length_set, List.length_replicate, List.length_take, List.size_toArray]; omega))) [E19, c23, c24, c25]
          try omega
        · cases h
      · cases h
    · rcases ite_some h with ⟨c26, h⟩ | ⟨c26, h⟩
      · rcases ite_some h with ⟨c27, h⟩ | ⟨c27, h⟩
        · simp (maxSteps := 2000000) (disch := (first | omega | (simp only [List.length_append, List.length_map, List.length_cons, List.length_nil, List.length_set, List.length_replicate, List.length_take, List.size_toArray]; omega))) [E19, c23, c26, c27]
          refine AEnds.againS ((ih k22 (by omega)).2.1 _ _ _ _  h) ?_
          simp only [E19, firstR, mk_keep, keepT, List.find?, Nat.reduceBEq, Option.map_some, Option.getD_some]
          simp (maxSteps := 2000000) (disch := (first | omega | (simp only [List.length_append, List.length_map, List.length_cons, List.length_nil, List.length_set, List.length_replicate, List.length_take, List.size_toArray]; omega))) [E19, c23, c26, c27]
          try omega
        · cases h
      · simp (maxSteps := 2000000) (disch := (first | omega | (simp only [List.length_append, List.length_map, List.length_cons, List.length_nil, List.length_set, List.length_replicate, List.length_take, List.size_toArray]; omega))) [E19, c23, c26]
        refine AEnds.againS ((ih k22 (by omega)).2.1 _ _ _ _  h) ?_
        simp only [E19, firstR, mk_keep, keepT, List.find?, Nat.reduceBEq, Option.map_some, Option.getD_some]
        simp (maxSteps := 2000000) (disch := (first | omega | (simp only [List.length_append, List.length_map, List.length_cons, List.length_nil, List.length_set, List.length_replicate, List.length_take, List.size_toArray]; omega))) [E19, c23, c26]
        try omega
  · intro x0 x42 x43 h
    cases k with
    | zero => simp [nat_Parse.l1] at h
    | succ k28 =>
    simp only [nat_Parse.l1] at h
    simp only [Try.f19, atLoop, seek, firstR, reduceIte, Option.getD_some, Nat.reduceEqDiff]
    rcases ite_some h with ⟨c29, h⟩ | ⟨c29, h⟩
    · rcases ite_some h with ⟨c30, h⟩ | ⟨c30, h⟩
      · rcases ite_some h with ⟨c31, h⟩ | ⟨c31, h⟩
        · simp (maxSteps := 2000000) (disch := (first | omega | (simp only [List.length_append, List.length_map, List.length_cons, List.length_nil, List.length_set, List.length_replicate, List.length_take, List.size_toArray]; omega))) [E19, c29, c30, c31]
          refine AEnds.loopS ((ih k28 (by omega)).2.2.2.2 _ _ _ _ _ _  h) ?_
          simp only [E19, firstR, mk_keep, keepT, List.find?, Nat.reduceBEq, Option.map_some, Option.getD_some]
          simp (maxSteps := 2000000) (disch := (first | omega | (simp only [List.length_append, List.length_map, List.length_cons, List.length_nil, List.length_set, List.length_replicate, List.length_take, List.size_toArray]; omega))) [E19, c29, c30, c31]
          try omega
        · cases h
      · cases h
    · obtain rfl := Option.some.inj h
      simp (maxSteps := 2000000) (disch := (first | omega | (simp only [List.length_append, List.length_map, List.length_cons, List.length_nil, List.length_set, List.length_replicate, List.length_take, List.size_toArray]; omega))) [E19, c29]
      try omega
  · intro x0 x8 x42 x43 x52 x53 h
    cases k with
    | zero => simp [nat_Parse.l2] at h
    | succ k32 =>
    simp only [nat_Parse.l2] at h
    simp only [Try.f19, atLoop, seek, firstR, reduceIte, Option.getD_some, Nat.reduceEqDiff]
    rcases ite_some h with ⟨c33, h⟩ | ⟨c33, h⟩
    · rcases ite_some h with ⟨c34, h⟩ | ⟨c34, h⟩
      · rcases ite_some h with ⟨c35, h⟩ | ⟨c35, h⟩
        · try simp only [List.length_cons, List.length_nil, Nat.zero_add, Nat.reduceAdd] at c35
          exact absurd c35 (by first | omega | (simp; omega))
        · try simp only [List.length_cons, List.length_nil, Nat.zero_add, Nat.reduceAdd] at c35
          cases h
      · cases h
    · rcases ite_some h with ⟨c36, h⟩ | ⟨c36, h⟩
      · rcases ite_some h with ⟨c37, h⟩ | ⟨c37, h⟩
        · try simp only [List.length_cons, List.length_nil, Nat.zero_add, Nat.reduceAdd] at c37
          simp (maxSteps := 2000000) (disch := (first | omega | (simp only [List.length_append, List.length_map, List.length_cons, List.length_nil, List.length_set, List.length_replicate, List.length_take, List.size_toArray]; omega))) [E19, c33, c36, c37]
          refine AEnds.againS ((ih k32 (by omega)).2.1 _ _ _ _  h) ?_
          simp only [E19, firstR, mk_keep, keepT, List.find?, Nat.reduceBEq, Option.map_some, Option.getD_some]
          simp (maxSteps := 2000000) (disch := (first | omega | (simp only [List.length_append, List.length_map, List.length_cons, List.length_nil, List.length_set, List.length_replicate, List.length_take, List.size_toArray]; omega))) [E19, c33, c36, c37]
          try omega
        · try simp only [List.length_cons, List.length_nil, Nat.zero_add, Nat.reduceAdd] at c37
          cases h
      · simp (maxSteps := 2000000) (disch := (first | omega | (simp only [List.length_append, List.length_map, List.length_cons, List.length_nil, List.length_set, List.length_replicate, List.length_take, List.size_toArray]; omega))) [E19, c33, c36]
        refine AEnds.againS ((ih k32 (by omega)).2.2.2.1 _ _ _  h) ?_
        simp only [E19, firstR, mk_keep, keepT, List.find?, Nat.reduceBEq, Option.map_some, Option.getD_some]
        simp (maxSteps := 2000000) (disch := (first | omega | (simp only [List.length_append, List.length_map, List.length_cons, List.length_nil, List.length_set, List.length_replicate, List.length_take, List.size_toArray]; omega))) [E19, c33, c36]
        try omega
theorem n19_run (k : Nat) (a0 : ByteArray) (hz : a0.size ≤ 140737488355328) (r : (List Int × Int)) (h : nat_Parse.f k a0 = some r) : AEnds E19 (finW Try.prog Try.f19.results) 0 [.code (Try.f19.body.getD .skip)] (startA Try.f19 [(.str a0)] [] []) (.tup [(rowI .u32 r.1), (.int .i64 r.2)]) := by
  unfold nat_Parse.f at h
  simp only [Try.f19, Option.getD_some, startA]
  rcases ite_some h with ⟨c38, h⟩ | ⟨c38, h⟩
  · obtain ⟨t39, e40, h⟩ := Option.bind_eq_some_iff.1 h
    obtain rfl := Option.some.inj e40
    simp (maxSteps := 2000000) (disch := (first | omega | (simp only [List.length_append, List.length_map, List.length_cons, List.length_nil, List.length_set, List.length_replicate, List.length_take, List.size_toArray]; omega))) [E19, maxS hz, c38]
    refine AEnds.loopS ((n19_ls _ _).1 _ _ _ _  h) ?_
    simp only [E19, firstR, mk_keep, keepT, List.find?, Nat.reduceBEq, Option.map_some, Option.getD_some]
    simp (maxSteps := 2000000) (disch := (first | omega | (simp only [List.length_append, List.length_map, List.length_cons, List.length_nil, List.length_set, List.length_replicate, List.length_take, List.size_toArray]; omega))) [E19, maxS hz, c38]
    try omega
  · cases h
end Go.Proofs.Ythkiklpcglogpaa.ZRat
namespace Go.Proofs.Ythkiklpcglogpaa.ZRat
open Go.RowKit Go.Proofs.Ythkiklpcglogpaa.Wd
open Go Go.Proofs.Ythkiklpcglogpaa.Ab Go.Proofs
set_option linter.unusedSimpArgs false
set_option linter.unusedVariables false
set_option maxHeartbeats 4000000
set_option maxRecDepth 10000
noncomputable def E13 : Env := mkE [] [31, 32, 33] [(3, [0, 4, 5]), (12, [0, 4, 6])] [(14, [([], [], false), ([], [], false), ([0], [], false), ([], [], false), ([], [], false), ([], [], false), ([], [], false), ([], [], false), ([], [], false), ([0, 1], [], false), ([0, 1], [], false), ([], [], false)])]
theorem n13_ls (r : (List Int × Int)) (k : Nat) : (∀ (x0 : ByteArray) (x4 : List Int) (x5 : Int), zelligeref03_Parse.l0 k x0 x4 x5 = some r → AEnds E13 (finW Try.prog Try.f13.results) 0 (atLoop Try.f13 3) ⟨fr 60 [(0, (.str x0)), (4, .own 0 0 x4.length 1), (5, (.int .i64 x5))], [.arr ((x4).map (.int .i64))], [false]⟩ (.tup [(rowI .i64 r.1), (.int .i64 r.2)])) ∧ (∀ (x0 : ByteArray) (x4 : List Int) (x6 : Int), zelligeref03_Parse.l1 k x0 x4 x6 = some r → AEnds E13 (finW Try.prog Try.f13.results) 0 (atLoop Try.f13 12) ⟨fr 60 [(0, (.str x0)), (4, (rowI .i64 x4)), (6, (.int .i64 x6))], [], []⟩ (.tup [(rowI .i64 r.1), (.int .i64 r.2)])) ∧ (∀ (x0 : ByteArray) (x4 : List Int) (x6 : Int), zelligeref03_Parse.l1 k x0 x4 x6 = some r → AEnds E13 (finW Try.prog Try.f13.results) 0 (atLoop Try.f13 12) ⟨fr 60 [(0, (.str x0)), (4, .own 0 0 x4.length 1), (6, (.int .i64 x6))], [.arr ((x4).map (.int .i64))], [false]⟩ (.tup [(rowI .i64 r.1), (.int .i64 r.2)])) := by
  induction k using Nat.strongRecOn with
  | _ k ih =>
  refine ⟨?_, ?_, ?_⟩
  · intro x0 x4 x5 h
    cases k with
    | zero => simp [zelligeref03_Parse.l0] at h
    | succ k1 =>
    simp only [zelligeref03_Parse.l0] at h
    simp only [Try.f13, atLoop, seek, firstR, reduceIte, Option.getD_some, Nat.reduceEqDiff]
    rcases ite_some h with ⟨c2, h⟩ | ⟨c2, h⟩
    · rcases ite_some h with ⟨c3, h⟩ | ⟨c3, h⟩
      · rcases ite_some h with ⟨c4, h⟩ | ⟨c4, h⟩
        · obtain rfl := Option.some.inj h
          simp (maxSteps := 2000000) (disch := (first | omega | (simp only [List.length_append, List.length_map, List.length_cons, List.length_nil, List.length_set, List.length_replicate, List.length_take, List.size_toArray]; omega))) [E13, c2, c3, c4]
          try omega
        · rcases ite_some h with ⟨c5, h⟩ | ⟨c5, h⟩
          · obtain rfl := Option.some.inj h
            simp (maxSteps := 2000000) (disch := (first | omega | (simp only [List.length_append, List.length_map, List.length_cons, List.length_nil, List.length_set, List.length_replicate, List.length_take, List.size_toArray]; omega))) [E13, c2, c3, c4, c5]
            try omega
          · simp (maxSteps := 2000000) (disch := (first | omega | (simp only [List.length_append, List.length_map, List.length_cons, List.length_nil, List.length_set, List.length_replicate, List.length_take, List.size_toArray]; omega))) [E13, c2, c3, c4, c5]
            refine AEnds.againS ((ih k1 (by omega)).1 _ _ _  h) ?_
            simp only [E13, firstR, mk_keep, keepT, List.find?, Nat.reduceBEq, Option.map_some, Option.getD_some]
            simp (maxSteps := 2000000) (disch := (first | omega | (simp only [List.length_append, List.length_map, List.length_cons, List.length_nil, List.length_set, List.length_replicate, List.length_take, List.size_toArray]; omega))) [E13, c2, c3, c4, c5]
            try omega
      · cases h
    · rcases ite_some h with ⟨c6, h⟩ | ⟨c6, h⟩
      · try simp only [List.length_cons, List.length_nil, Nat.zero_add, Nat.reduceAdd] at c6
        cases k1 with
        | zero => simp [zelligeref03_Parse.j1] at h
        | succ k7 =>
        simp only [zelligeref03_Parse.j1] at h
        rcases ite_some h with ⟨c8, h⟩ | ⟨c8, h⟩
        · obtain rfl := Option.some.inj h
          simp (maxSteps := 2000000) (disch := (first | omega | (simp only [List.length_append, List.length_map, List.length_cons, List.length_nil, List.length_set, List.length_replicate, List.length_take, List.size_toArray]; omega))) [E13, c2, c6]
          try omega
        · simp at c8
      · try simp only [List.length_cons, List.length_nil, Nat.zero_add, Nat.reduceAdd] at c6
        rcases ite_some h with ⟨c9, h⟩ | ⟨c9, h⟩
        · rcases ite_some h with ⟨c10, h⟩ | ⟨c10, h⟩
          · cases k1 with
            | zero => simp [zelligeref03_Parse.j1] at h
            | succ k11 =>
            simp only [zelligeref03_Parse.j1] at h
            rcases ite_some h with ⟨c12, h⟩ | ⟨c12, h⟩
            · simp only [decide_eq_true_eq] at c12
              obtain rfl := Option.some.inj h
              simp (maxSteps := 2000000) (disch := (first | omega | (simp only [List.length_append, List.length_map, List.length_cons, List.length_nil, List.length_set, List.length_replicate, List.length_take, List.size_toArray]; omega))) [E13, c2, c6, c9, c10, c12]
              try omega
            · simp only [decide_eq_true_eq] at c12
              rcases ite_some h with ⟨c13, h⟩ | ⟨c13, h⟩
              · obtain rfl := Option.some.inj h
                simp (maxSteps := 2000000) (disch := (first | omega | (simp only [List.length_append, List.length_map, List.length_cons, List.length_nil, List.length_set, List.length_replicate, List.length_take, List.size_toArray]; omega))) [E13, c2, c6, c9, c10, c12, c13]
                try omega
              · simp (maxSteps := 2000000) (disch := (first | omega | (simp only [List.length_append, List.length_map, List.length_cons, List.length_nil, List.length_set, List.length_replicate, List.length_take, List.size_toArray]; omega))) [E13, c2, c6, c9, c10, c12, c13]
                refine AEnds.loopS ((ih k11 (by omega)).2.2 _ _ _  h) ?_
                simp only [E13, firstR, mk_keep, keepT, List.find?, Nat.reduceBEq, Option.map_some, Option.getD_some]
                simp (maxSteps := 2000000) (disch := (first | omega | (simp only [List.length_append, List.length_map, List.length_cons, List.length_nil, List.length_set, List.length_replicate, List.length_take, List.size_toArray]; omega))) [E13, c2, c6, c9, c10, c12, c13]
                try omega
          · cases k1 with
            | zero => simp [zelligeref03_Parse.j1] at h
            | succ k14 =>
            simp only [zelligeref03_Parse.j1] at h
            rcases ite_some h with ⟨c15, h⟩ | ⟨c15, h⟩
            · simp at c15
            · rcases ite_some h with ⟨c16, h⟩ | ⟨c16, h⟩
              · obtain rfl := Option.some.inj h
                simp (maxSteps := 2000000) (disch := (first | omega | (simp only [List.length_append, List.length_map, List.length_cons, List.length_nil, List.length_set, List.length_replicate, List.length_take, List.size_toArray]; omega))) [E13, c2, c6, c9, c10, c16]
                try omega
              · simp (maxSteps := 2000000) (disch := (first | omega | (simp only [List.length_append, List.length_map, List.length_cons, List.length_nil, List.length_set, List.length_replicate, List.length_take, List.size_toArray]; omega))) [E13, c2, c6, c9, c10, c16]
                refine AEnds.loopS ((ih k14 (by omega)).2.2 _ _ _  h) ?_
                simp only [E13, firstR, mk_keep, keepT, List.find?, Nat.reduceBEq, Option.map_some, Option.getD_some]
                simp (maxSteps := 2000000) (disch := (first | omega | (simp only [List.length_append, List.length_map, List.length_cons, List.length_nil, List.length_set, List.length_replicate, List.length_take, List.size_toArray]; omega))) [E13, c2, c6, c9, c10, c16]
                try omega
        · cases h
  · intro x0 x4 x6 h
    cases k with
    | zero => simp [zelligeref03_Parse.l1] at h
    | succ k17 =>
    simp only [zelligeref03_Parse.l1] at h
    simp only [Try.f13, atLoop, seek, firstR, reduceIte, Option.getD_some, Nat.reduceEqDiff]
    rcases ite_some h with ⟨c18, h⟩ | ⟨c18, h⟩
    · obtain ⟨t19, e20, h⟩ := Option.bind_eq_some_iff.1 h
      have p21 := pick_of (fun k r h => zelligeref03_Mul.mono _ _  k r h) e20
      rcases ite_some h with ⟨c22, h⟩ | ⟨c22, h⟩
      · obtain ⟨t23, e24, h⟩ := Option.bind_eq_some_iff.1 h
        have p25 := pick_of (fun k r h => zelligeref03_Trim.mono _  k r h) e24
        obtain ⟨t26, e27, h⟩ := Option.bind_eq_some_iff.1 h
        have p28 := pick_of (fun k r h => zelligeref03_Add.mono _ _  k r h) e27
        simp (maxSteps := 2000000) (disch := (first | omega | (simp only [List.length_append, List.length_map, List.length_cons, List.length_nil, List.length_set, List.length_replicate, List.length_take, List.size_toArray]; omega))) [E13, c18, p21, c22, p25, p28]
        refine AEnds.againS ((ih k17 (by omega)).2.1 _ _ _  h) ?_
        simp only [E13, firstR, mk_keep, keepT, List.find?, Nat.reduceBEq, Option.map_some, Option.getD_some]
        simp (maxSteps := 2000000) (disch := (first | omega | (simp only [List.length_append, List.length_map, List.length_cons, List.length_nil, List.length_set, List.length_replicate, List.length_take, List.size_toArray]; omega))) [E13, c18, p21, c22, p25, p28]
        try omega
      · cases h
    · obtain rfl := Option.some.inj h
      simp (maxSteps := 2000000) (disch := (first | omega | (simp only [List.length_append, List.length_map, List.length_cons, List.length_nil, List.length_set, List.length_replicate, List.length_take, List.size_toArray]; omega))) [E13, c18]
      try omega
  · intro x0 x4 x6 h
    cases k with
    | zero => simp [zelligeref03_Parse.l1] at h
    | succ k29 =>
    simp only [zelligeref03_Parse.l1] at h
    simp only [Try.f13, atLoop, seek, firstR, reduceIte, Option.getD_some, Nat.reduceEqDiff]
    rcases ite_some h with ⟨c30, h⟩ | ⟨c30, h⟩
    · obtain ⟨t31, e32, h⟩ := Option.bind_eq_some_iff.1 h
      have p33 := pick_of (fun k r h => zelligeref03_Mul.mono _ _  k r h) e32
      rcases ite_some h with ⟨c34, h⟩ | ⟨c34, h⟩
      · obtain ⟨t35, e36, h⟩ := Option.bind_eq_some_iff.1 h
        have p37 := pick_of (fun k r h => zelligeref03_Trim.mono _  k r h) e36
        obtain ⟨t38, e39, h⟩ := Option.bind_eq_some_iff.1 h
        have p40 := pick_of (fun k r h => zelligeref03_Add.mono _ _  k r h) e39
        simp (maxSteps := 2000000) (disch := (first | omega | (simp only [List.length_append, List.length_map, List.length_cons, List.length_nil, List.length_set, List.length_replicate, List.length_take, List.size_toArray]; omega))) [E13, c30, p33, c34, p37, p40]
        refine AEnds.againS ((ih k29 (by omega)).2.1 _ _ _  h) ?_
        simp only [E13, firstR, mk_keep, keepT, List.find?, Nat.reduceBEq, Option.map_some, Option.getD_some]
        simp (maxSteps := 2000000) (disch := (first | omega | (simp only [List.length_append, List.length_map, List.length_cons, List.length_nil, List.length_set, List.length_replicate, List.length_take, List.size_toArray]; omega))) [E13, c30, p33, c34, p37, p40]
        try omega
      · cases h
    · obtain rfl := Option.some.inj h
      simp (maxSteps := 2000000) (disch := (first | omega | (simp only [List.length_append, List.length_map, List.length_cons, List.length_nil, List.length_set, List.length_replicate, List.length_take, List.size_toArray]; omega))) [E13, c30]
      try omega
theorem n13_run (k : Nat) (a0 : ByteArray) (r : (List Int × Int)) (h : zelligeref03_Parse.f k a0 = some r) : AEnds E13 (finW Try.prog Try.f13.results) 0 [.code (Try.f13.body.getD .skip)] (startA Try.f13 [(.str a0)] [] []) (.tup [(rowI .i64 r.1), (.int .i64 r.2)]) := by
  unfold zelligeref03_Parse.f at h
  simp only [Try.f13, Option.getD_some, startA]
  simp (maxSteps := 2000000) (disch := (first | omega | (simp only [List.length_append, List.length_map, List.length_cons, List.length_nil, List.length_set, List.length_replicate, List.length_take, List.size_toArray]; omega))) [E13]
  refine AEnds.loopS ((n13_ls _ _).1 _ _ _  h) ?_
  simp only [E13, firstR, mk_keep, keepT, List.find?, Nat.reduceBEq, Option.map_some, Option.getD_some]
  simp (maxSteps := 2000000) (disch := (first | omega | (simp only [List.length_append, List.length_map, List.length_cons, List.length_nil, List.length_set, List.length_replicate, List.length_take, List.size_toArray]; omega))) [E13]
  try omega
end Go.Proofs.Ythkiklpcglogpaa.ZRat
namespace Go.Proofs.Ythkiklpcglogpaa.ZRat
open Go.RowKit Go.Proofs.Ythkiklpcglogpaa.Wd
open Go Go.Proofs.Ythkiklpcglogpaa.Ab Go.Proofs
set_option linter.unusedSimpArgs false
set_option linter.unusedVariables false
set_option maxHeartbeats 4000000
set_option maxRecDepth 10000
noncomputable def E47 : Env := mkT [(2, [3, 4]), (5, [3, 4, 5, 6])] []
theorem n47_ls (r : (ByteArray)) (k : Nat) : (∀ (tl : List Int) (x3 : List Int) (x4 : ByteArray), zelligeref03_Show.l0 k x3 x4 = some r → AEnds E47 (finW Try.prog Try.f47.results) 0 (atLoop Try.f47 2) ⟨fr 47 [(3, .own 0 0 x3.length 1), (4, (.str x4))], [.arr ((x3 ++ tl).map (.int .i64))], [false]⟩ (.str r)) ∧ (∀ (tl : List Int) (x3 : List Int) (x4 : ByteArray) (x5 : Int) (x6 : Int), zelligeref03_Show.l1 k x3 x4 x5 x6 = some r → AEnds E47 (finW Try.prog Try.f47.results) 0 (atLoop Try.f47 5) ⟨fr 47 [(3, .own 0 0 x3.length 1), (4, (.str x4)), (5, (.int .i64 x5)), (6, (.int .i64 x6))], [.arr ((x3 ++ tl).map (.int .i64))], [false]⟩ (.str r)) := by
  induction k using Nat.strongRecOn with
  | _ k ih =>
  refine ⟨?_, ?_⟩
  · intro tl x3 x4 h
    cases k with
    | zero => simp [zelligeref03_Show.l0] at h
    | succ k1 =>
    simp only [zelligeref03_Show.l0] at h
    simp only [Try.f47, atLoop, seek, firstR, reduceIte, Option.getD_some, Nat.reduceEqDiff]
    replace h := ite_some h
    rcases h with ⟨c2, h⟩ | ⟨c2, h⟩
    · cases k1 with
      | zero => simp [zelligeref03_Show.j1] at h
      | succ k3 =>
      simp only [zelligeref03_Show.j1] at h
      replace h := ite_some h
      rcases h with ⟨c4, h⟩ | ⟨c4, h⟩
      · simp (maxSteps := 2000000) (disch := (first | omega | (simp only [List.length_append, List.length_map, List.length_cons, List.length_nil, List.length_set, List.length_replicate, List.length_take, List.size_toArray]; omega))) [E47, c2]
        refine AEnds.loopS ((ih k3 (by omega)).2 tl _ _ _ _  h) ?_
        simp only [E47, firstR, mkT_keep, keepT, List.find?, Nat.reduceBEq, Option.map_some, Option.getD_some]
        simp (maxSteps := 2000000) (disch := (first | omega | (simp only [List.length_append, List.length_map, List.length_cons, List.length_nil, List.length_set, List.length_replicate, List.length_take, List.size_toArray]; omega))) [E47, c2]
        try omega
      · simp at c4
    · cases k1 with
      | zero => simp [zelligeref03_Show.j1] at h
      | succ k5 =>
      simp only [zelligeref03_Show.j1] at h
      replace h := ite_some h
      rcases h with ⟨c6, h⟩ | ⟨c6, h⟩
      · try simp only [List.length_cons, List.length_nil, Nat.zero_add, Nat.reduceAdd] at c6
        simp (maxSteps := 2000000) (disch := (first | omega | (simp only [List.length_append, List.length_map, List.length_cons, List.length_nil, List.length_set, List.length_replicate, List.length_take, List.size_toArray]; omega))) [E47, c2, c6]
        refine AEnds.loopS ((ih k5 (by omega)).2 tl _ _ _ _  h) ?_
        simp only [E47, firstR, mkT_keep, keepT, List.find?, Nat.reduceBEq, Option.map_some, Option.getD_some]
        simp (maxSteps := 2000000) (disch := (first | omega | (simp only [List.length_append, List.length_map, List.length_cons, List.length_nil, List.length_set, List.length_replicate, List.length_take, List.size_toArray]; omega))) [E47, c2, c6]
        try omega
      · try simp only [List.length_cons, List.length_nil, Nat.zero_add, Nat.reduceAdd] at c6
        obtain rfl := Option.some.inj h
        simp (maxSteps := 2000000) (disch := (first | omega | (simp only [List.length_append, List.length_map, List.length_cons, List.length_nil, List.length_set, List.length_replicate, List.length_take, List.size_toArray]; omega))) [E47, c2, c6]
        try omega
  · intro tl x3 x4 x5 x6 h
    cases k with
    | zero => simp [zelligeref03_Show.l1] at h
    | succ k7 =>
    simp only [zelligeref03_Show.l1] at h
    simp only [Try.f47, atLoop, seek, firstR, reduceIte, Option.getD_some, Nat.reduceEqDiff]
    replace h := ite_some h
    rcases h with ⟨c8, h⟩ | ⟨c8, h⟩
    · replace h := ite_some h
      rcases h with ⟨c9, h⟩ | ⟨c9, h⟩
      · replace h := ite_some h
        rcases h with ⟨c10, h⟩ | ⟨c10, h⟩
        · simp (maxSteps := 2000000) (disch := (first | omega | (simp only [List.length_append, List.length_map, List.length_cons, List.length_nil, List.length_set, List.length_replicate, List.length_take, List.size_toArray]; omega))) [E47, c8, c9, c10]
          refine AEnds.againS ((ih k7 (by omega)).2 tl _ _ _ _  h) ?_
          simp only [E47, firstR, mkT_keep, keepT, List.find?, Nat.reduceBEq, Option.map_some, Option.getD_some]
          simp (maxSteps := 2000000) (disch := (first | omega | (simp only [List.length_append, List.length_map, List.length_cons, List.length_nil, List.length_set, List.length_replicate, List.length_take, List.size_toArray]; omega))) [E47, c8, c9, c10]
          try omega
        · cases h
      · cases h
    · replace h := Option.bind_eq_some_iff.1 h
      obtain ⟨t11, e12, h⟩ := h
      have p13 := pick_of (fun k r h => zelligeref03_Trim.mono _  k r h) e12
      obtain ⟨tlq14, q14⟩ := dtrim_pre e12
      subst q14
      replace h := ite_some h
      rcases h with ⟨c15, h⟩ | ⟨c15, h⟩
      · replace h := ite_some h
        rcases h with ⟨c16, h⟩ | ⟨c16, h⟩
        · replace h := ite_some h
          rcases h with ⟨c17, h⟩ | ⟨c17, h⟩
          · replace h := ite_some h
            rcases h with ⟨c18, h⟩ | ⟨c18, h⟩
            · try simp only [List.length_cons, List.length_nil, Nat.zero_add, Nat.reduceAdd] at c18
              have cN : (9223372036854775807 < ((((wrap64 (x5 + 1)).toNat - x5.toNat : Nat) : Int) + (x4.size : Int))) = False := by
                refine eq_false ?_
                simp only [ByteArray.size_extract] at c18
                have e10 : (⟨#[48, 49, 50, 51, 52, 53, 54, 55, 56, 57]⟩ : ByteArray).size = 10 := rfl
                rw [e10] at c18
                omega
              simp (maxSteps := 2000000) (disch := (first | omega | (simp only [List.length_append, List.length_map, List.length_cons, List.length_nil, List.length_set, List.length_replicate, List.length_take, List.size_toArray]; omega))) [E47, c8, p13, c15, c16, c17, c18, cN]
              refine AEnds.againS ((ih k7 (by omega)).1 (tlq14 ++ tl) _ _  h) ?_
              simp only [E47, firstR, mkT_keep, keepT, List.find?, Nat.reduceBEq, Option.map_some, Option.getD_some]
              simp (maxSteps := 2000000) (disch := (first | omega | (simp only [List.length_append, List.length_map, List.length_cons, List.length_nil, List.length_set, List.length_replicate, List.length_take, List.size_toArray]; omega))) [E47, c8, p13, c15, c16, c17, c18, cN]
              try omega
            · try simp only [List.length_cons, List.length_nil, Nat.zero_add, Nat.reduceAdd] at c18
              cases h
          · cases h
        · cases h
      · cases h
theorem n47_run (k : Nat) (l0 : List Int) (r : (ByteArray)) (h : zelligeref03_Show.f k l0 = some r) : AEnds E47 (finW Try.prog Try.f47.results) 0 [.code (Try.f47.body.getD .skip)] (startA Try.f47 [(rowI .i64 l0)] [] []) (.str r) := by
  unfold zelligeref03_Show.f at h
  simp only [Try.f47, Option.getD_some, startA]
  replace h := Option.bind_eq_some_iff.1 h
  obtain ⟨t19, e20, h⟩ := h
  obtain rfl := Option.some.inj e20
  replace h := ite_some h
  rcases h with ⟨c21, h⟩ | ⟨c21, h⟩
  · try simp only [List.length_cons, List.length_nil, Nat.zero_add, Nat.reduceAdd] at c21
    simp (maxSteps := 2000000) (disch := (first | omega | (simp only [List.length_append, List.length_map, List.length_cons, List.length_nil, List.length_set, List.length_replicate, List.length_take, List.size_toArray]; omega))) [E47, c21]
    refine AEnds.loopS ((n47_ls _ _).1 [] _ _  h) ?_
    simp only [E47, firstR, mkT_keep, keepT, List.find?, Nat.reduceBEq, Option.map_some, Option.getD_some]
    simp (maxSteps := 2000000) (disch := (first | omega | (simp only [List.length_append, List.length_map, List.length_cons, List.length_nil, List.length_set, List.length_replicate, List.length_take, List.size_toArray]; omega))) [E47, c21]
    try omega
  · try simp only [List.length_cons, List.length_nil, Nat.zero_add, Nat.reduceAdd] at c21
    cases h
end Go.Proofs.Ythkiklpcglogpaa.ZRat
namespace Go.Proofs.Ythkiklpcglogpaa.ZRat
open Go.RowKit Go.Proofs.Ythkiklpcglogpaa.Wd
open Go Go.Proofs.Ythkiklpcglogpaa.Ab Go.Proofs Go.Proofs.Ythkiklpcglogpaa.Num Go.Proofs.Ythkiklpcglogpaa.ZRatP
set_option linter.unusedSimpArgs false
set_option linter.unusedVariables false
set_option maxHeartbeats 8000000
set_option maxRecDepth 100000
def sl (s : ByteArray) : Int := Lib.indexByte s.data.toList 47
theorem slE (s : ByteArray) : Lib.indexByte s.data.toList 47 = sl s := rfl
theorem sl_ge (s : ByteArray) : -1 ≤ sl s := Lib.indexByte_ge _ _
theorem sl_lt (s : ByteArray) : sl s < (s.size : Int) := by
  by_cases h : 0 ≤ sl s
  · obtain ⟨n, hn⟩ := Int.eq_ofNat_of_zero_le h
    have := (Lib.indexByte_some (l := s.data.toList) (c := 47) (o := n) hn).1
    have h2 := (List.getElem?_eq_some_iff.1 this).1
    rw [hn]
    have : s.data.toList.length = s.size := by rw [Array.length_toList]; rfl
    omega
  · omega
def minus (s : ByteArray) : Bool := decide ((Wd.bytesOf s).head? = some 45)
theorem tl45 : (⟨#[45]⟩ : ByteArray).toList = [45] := by rw [toList_data]
theorem minus_ext (s : ByteArray) (h : 1 ≤ s.size) : ((s.extract 0 1).toList == [45]) = minus s := by
  rw [toList_data, ext_take]
  unfold minus Wd.bytesOf
  have hl : s.data.toList.length = s.size := by rw [Array.length_toList]; rfl
  cases hx : s.data.toList with
  | nil => rw [hx] at hl; simp at hl; omega
  | cons c cs =>
    by_cases hc : c = 45
    · subst hc; simp
    · have h2 : ¬ ((c.toNat : Int) = 45) := fun e => hc (UInt8.toNat_inj.1 (by rw [show (45 : UInt8).toNat = 45 from rfl]; omega))
      rw [List.map_cons, List.head?_cons, decide_eq_false (fun e => h2 (Option.some.inj e))]
      simp [hc]
theorem minus_none (s : ByteArray) (h : ¬ 1 ≤ s.size) : minus s = false := by
  unfold minus
  have hl := bytesOf_length s
  have : Wd.bytesOf s = [] := List.length_eq_zero_iff.1 (by omega)
  rw [this]; rfl
theorem minus_pos (s : ByteArray) (h : minus s = true) : 1 ≤ s.size := by
  rcases Nat.lt_or_ge s.size 1 with q | q
  · rw [minus_none s (by omega)] at h; cases h
  · exact q
attribute [simp] tl45
noncomputable def SCut1 : List AV → Option AV
  | [x0, x1] => (unS x0).bind fun a0 => (unS x1).bind fun a1 => if a1 = ⟨#[47]⟩ ∧ a0.size ≤ 1000000000000 then some (if 0 ≤ sl a0 then .tup [.str (a0.extract 0 (sl a0).toNat), .str (a0.extract (sl a0 + 1).toNat a0.size), .bool true] else .tup [.str a0, .str ⟨#[]⟩, .bool false]) else none
  | _ => none
noncomputable def E_SCut1 : Env := mkS [(58, SIndex)] [] []
theorem run_SCut1 (a0 : ByteArray) (a1 : ByteArray) (hc : a1 = ⟨#[47]⟩ ∧ a0.size ≤ 1000000000000) : AEnds E_SCut1 (finW Try.prog Try.f37.results) 0 [.code (Try.f37.body.getD .skip)] (startA Try.f37 [.str a0, .str a1] [] []) (if 0 ≤ sl a0 then .tup [.str (a0.extract 0 (sl a0).toNat), .str (a0.extract (sl a0 + 1).toNat a0.size), .bool true] else .tup [.str a0, .str ⟨#[]⟩, .bool false]) := by
  simp only [Try.f37, Option.getD_some, startA]
  obtain ⟨rfl, hs⟩ := hc
  have h1 := sl_lt a0
  have h2 := sl_ge a0
  have e : wrap64 (sl a0 + 1) = sl a0 + 1 := by unfold wrap64; omega
  have f1 : sl a0 + 1 ≤ (a0.size : Int) := by omega
  have f2 : sl a0 ≤ (a0.size : Int) := by omega
  by_cases h : 0 ≤ sl a0
  · have f3 : 0 ≤ sl a0 + 1 := by omega
    rw [if_pos h]
    simp (maxSteps := 4000000) (disch := (first | with_reducible rfl | assumption | with_reducible exact WB_NB _ _ | (with_reducible refine nb_le ?_; omega) | (with_reducible refine nb16_le ?_; omega) | omega | (simp only [List.length_append, List.length_map, List.length_cons, List.length_nil, List.length_set, List.length_replicate, List.length_take, List.size_toArray]; omega))) [E_SCut1, h, e, h1, f1, f2, f3, SIndex, slE]
  · rw [if_neg h]
    simp (maxSteps := 4000000) (disch := (first | with_reducible rfl | assumption | with_reducible exact WB_NB _ _ | (with_reducible refine nb_le ?_; omega) | (with_reducible refine nb16_le ?_; omega) | omega | (simp only [List.length_append, List.length_map, List.length_cons, List.length_nil, List.length_set, List.length_replicate, List.length_take, List.size_toArray]; omega))) [E_SCut1, h, SIndex, slE]
theorem sSCut1 : GoodS (37, SCut1) := by
  intro xs r h
  simp only at h
  unfold SCut1 at h
  split at h
  · obtain ⟨a0, h0, h⟩ := Option.bind_eq_some_iff.1 h
    obtain ⟨a1, h1, h⟩ := Option.bind_eq_some_iff.1 h
    split at h
    · rename_i hc
      cases h
      obtain rfl := unS_eq h0
      obtain rfl := unS_eq h1
      exact .inl <| okW_ends (mkS_ok (alls_cons sSIndex alls_nil)) mixed Try.func37 rfl (by kernel_rfl : Fits Try.prog E_SCut1.ref E_SCut1.dep Try.f37 = true) (run_SCut1 _ _ hc)
    · cases h
  · cases h
attribute [simp] SCut1
noncomputable def SCut : List AV → Option AV
  | [x0, x1] => (unS x0).bind fun a0 => (unS x1).bind fun a1 => if a1 = ⟨#[47]⟩ ∧ a0.size ≤ 1000000000000 then some (if 0 ≤ sl a0 then .tup [.str (a0.extract 0 (sl a0).toNat), .str (a0.extract (sl a0 + 1).toNat a0.size), .bool true] else .tup [.str a0, .str ⟨#[]⟩, .bool false]) else none
  | _ => none
noncomputable def E_SCut : Env := mkS [(37, SCut1)] [] []
theorem run_SCut (a0 : ByteArray) (a1 : ByteArray) (hc : a1 = ⟨#[47]⟩ ∧ a0.size ≤ 1000000000000) : AEnds E_SCut (finW Try.prog Try.f17.results) 0 [.code (Try.f17.body.getD .skip)] (startA Try.f17 [.str a0, .str a1] [] []) (if 0 ≤ sl a0 then .tup [.str (a0.extract 0 (sl a0).toNat), .str (a0.extract (sl a0 + 1).toNat a0.size), .bool true] else .tup [.str a0, .str ⟨#[]⟩, .bool false]) := by
  simp only [Try.f17, Option.getD_some, startA]
  obtain ⟨rfl, hs⟩ := hc
  by_cases h : 0 ≤ sl a0
  · rw [if_pos h]
    simp (maxSteps := 4000000) (disch := (first | with_reducible rfl | assumption | with_reducible exact WB_NB _ _ | (with_reducible refine nb_le ?_; omega) | (with_reducible refine nb16_le ?_; omega) | omega | (simp only [List.length_append, List.length_map, List.length_cons, List.length_nil, List.length_set, List.length_replicate, List.length_take, List.size_toArray]; omega))) [E_SCut, h, hs]
  · rw [if_neg h]
    simp (maxSteps := 4000000) (disch := (first | with_reducible rfl | assumption | with_reducible exact WB_NB _ _ | (with_reducible refine nb_le ?_; omega) | (with_reducible refine nb16_le ?_; omega) | omega | (simp only [List.length_append, List.length_map, List.length_cons, List.length_nil, List.length_set, List.length_replicate, List.length_take, List.size_toArray]; omega))) [E_SCut, h, hs]
theorem sSCut : GoodS (17, SCut) := by
  intro xs r h
  simp only at h
  unfold SCut at h
  split at h
  · obtain ⟨a0, h0, h⟩ := Option.bind_eq_some_iff.1 h
    obtain ⟨a1, h1, h⟩ := Option.bind_eq_some_iff.1 h
    split at h
    · rename_i hc
      cases h
      obtain rfl := unS_eq h0
      obtain rfl := unS_eq h1
      exact .inl <| okW_ends (mkS_ok (alls_cons sSCut1 alls_nil)) mixed Try.func17 rfl (by kernel_rfl : Fits Try.prog E_SCut.ref E_SCut.dep Try.f17 = true) (run_SCut _ _ hc)
    · cases h
  · cases h
attribute [simp] SCut
noncomputable def SHas : List AV → Option AV
  | [x0, x1] => (unS x0).bind fun a0 => (unS x1).bind fun a1 => if a1 = ⟨#[45]⟩ then some (.bool (minus a0)) else none
  | _ => none
noncomputable def E_SHas : Env := mkS [] [] []
theorem run_SHas (a0 : ByteArray) (a1 : ByteArray) (hc : a1 = ⟨#[45]⟩) : AEnds E_SHas (finW Try.prog Try.f77.results) 0 [.code (Try.f77.body.getD .skip)] (startA Try.f77 [.str a0, .str a1] [] []) (.bool (minus a0)) := by
  simp only [Try.f77, Option.getD_some, startA]
  subst hc
  by_cases h : 1 ≤ a0.size
  · have e := minus_ext a0 h
    have h' : (1 : Int) ≤ (a0.size : Int) := by omega
    simp (maxSteps := 4000000) (disch := (first | with_reducible rfl | assumption | with_reducible exact WB_NB _ _ | (with_reducible refine nb_le ?_; omega) | (with_reducible refine nb16_le ?_; omega) | omega | (simp only [List.length_append, List.length_map, List.length_cons, List.length_nil, List.length_set, List.length_replicate, List.length_take, List.size_toArray]; omega))) [E_SHas, h, h', e]
  · have e := minus_none a0 h
    have h' : ¬ (1 : Int) ≤ (a0.size : Int) := by omega
    simp (maxSteps := 4000000) (disch := (first | with_reducible rfl | assumption | with_reducible exact WB_NB _ _ | (with_reducible refine nb_le ?_; omega) | (with_reducible refine nb16_le ?_; omega) | omega | (simp only [List.length_append, List.length_map, List.length_cons, List.length_nil, List.length_set, List.length_replicate, List.length_take, List.size_toArray]; omega))) [E_SHas, h, h', e]
theorem sSHas : GoodS (77, SHas) := by
  intro xs r h
  simp only at h
  unfold SHas at h
  split at h
  · obtain ⟨a0, h0, h⟩ := Option.bind_eq_some_iff.1 h
    obtain ⟨a1, h1, h⟩ := Option.bind_eq_some_iff.1 h
    split at h
    · rename_i hc
      cases h
      obtain rfl := unS_eq h0
      obtain rfl := unS_eq h1
      exact .inl <| okW_ends (mkS_ok alls_nil) mixed Try.func77 rfl (by kernel_rfl : Fits Try.prog E_SHas.ref E_SHas.dep Try.f77 = true) (run_SHas _ _ hc)
    · cases h
  · cases h
attribute [simp] SHas
noncomputable def SPre1 : List AV → Option AV
  | [x0, x1] => (unS x0).bind fun a0 => (unS x1).bind fun a1 => if a1 = ⟨#[45]⟩ then some (if minus a0 = true then .tup [.str (a0.extract 1 a0.size), .bool true] else .tup [.str a0, .bool false]) else none
  | _ => none
noncomputable def E_SPre1 : Env := mkS [(77, SHas)] [] []
theorem run_SPre1 (a0 : ByteArray) (a1 : ByteArray) (hc : a1 = ⟨#[45]⟩) : AEnds E_SPre1 (finW Try.prog Try.f59.results) 0 [.code (Try.f59.body.getD .skip)] (startA Try.f59 [.str a0, .str a1] [] []) (if minus a0 = true then .tup [.str (a0.extract 1 a0.size), .bool true] else .tup [.str a0, .bool false]) := by
  simp only [Try.f59, Option.getD_some, startA]
  subst hc
  by_cases h : minus a0 = true
  · have h1 := minus_pos a0 h
    have h' : (1 : Int) ≤ (a0.size : Int) := by omega
    rw [if_pos h]
    simp (maxSteps := 4000000) (disch := (first | with_reducible rfl | assumption | with_reducible exact WB_NB _ _ | (with_reducible refine nb_le ?_; omega) | (with_reducible refine nb16_le ?_; omega) | omega | (simp only [List.length_append, List.length_map, List.length_cons, List.length_nil, List.length_set, List.length_replicate, List.length_take, List.size_toArray]; omega))) [E_SPre1, h, h1, h']
  · rw [if_neg h]
    simp (maxSteps := 4000000) (disch := (first | with_reducible rfl | assumption | with_reducible exact WB_NB _ _ | (with_reducible refine nb_le ?_; omega) | (with_reducible refine nb16_le ?_; omega) | omega | (simp only [List.length_append, List.length_map, List.length_cons, List.length_nil, List.length_set, List.length_replicate, List.length_take, List.size_toArray]; omega))) [E_SPre1, h]
theorem sSPre1 : GoodS (59, SPre1) := by
  intro xs r h
  simp only at h
  unfold SPre1 at h
  split at h
  · obtain ⟨a0, h0, h⟩ := Option.bind_eq_some_iff.1 h
    obtain ⟨a1, h1, h⟩ := Option.bind_eq_some_iff.1 h
    split at h
    · rename_i hc
      cases h
      obtain rfl := unS_eq h0
      obtain rfl := unS_eq h1
      exact .inl <| okW_ends (mkS_ok (alls_cons sSHas alls_nil)) mixed Try.func59 rfl (by kernel_rfl : Fits Try.prog E_SPre1.ref E_SPre1.dep Try.f59 = true) (run_SPre1 _ _ hc)
    · cases h
  · cases h
attribute [simp] SPre1
noncomputable def SPre : List AV → Option AV
  | [x0, x1] => (unS x0).bind fun a0 => (unS x1).bind fun a1 => if a1 = ⟨#[45]⟩ then some (if minus a0 = true then .tup [.str (a0.extract 1 a0.size), .bool true] else .tup [.str a0, .bool false]) else none
  | _ => none
noncomputable def E_SPre : Env := mkS [(59, SPre1)] [] []
theorem run_SPre (a0 : ByteArray) (a1 : ByteArray) (hc : a1 = ⟨#[45]⟩) : AEnds E_SPre (finW Try.prog Try.f38.results) 0 [.code (Try.f38.body.getD .skip)] (startA Try.f38 [.str a0, .str a1] [] []) (if minus a0 = true then .tup [.str (a0.extract 1 a0.size), .bool true] else .tup [.str a0, .bool false]) := by
  simp only [Try.f38, Option.getD_some, startA]
  subst hc
  by_cases h : minus a0 = true
  · rw [if_pos h]
    simp (maxSteps := 4000000) (disch := (first | with_reducible rfl | assumption | with_reducible exact WB_NB _ _ | (with_reducible refine nb_le ?_; omega) | (with_reducible refine nb16_le ?_; omega) | omega | (simp only [List.length_append, List.length_map, List.length_cons, List.length_nil, List.length_set, List.length_replicate, List.length_take, List.size_toArray]; omega))) [E_SPre, h]
  · rw [if_neg h]
    simp (maxSteps := 4000000) (disch := (first | with_reducible rfl | assumption | with_reducible exact WB_NB _ _ | (with_reducible refine nb_le ?_; omega) | (with_reducible refine nb16_le ?_; omega) | omega | (simp only [List.length_append, List.length_map, List.length_cons, List.length_nil, List.length_set, List.length_replicate, List.length_take, List.size_toArray]; omega))) [E_SPre, h]
theorem sSPre : GoodS (38, SPre) := by
  intro xs r h
  simp only at h
  unfold SPre at h
  split at h
  · obtain ⟨a0, h0, h⟩ := Option.bind_eq_some_iff.1 h
    obtain ⟨a1, h1, h⟩ := Option.bind_eq_some_iff.1 h
    split at h
    · rename_i hc
      cases h
      obtain rfl := unS_eq h0
      obtain rfl := unS_eq h1
      exact .inl <| okW_ends (mkS_ok (alls_cons sSPre1 alls_nil)) mixed Try.func38 rfl (by kernel_rfl : Fits Try.prog E_SPre.ref E_SPre.dep Try.f38 = true) (run_SPre _ _ hc)
    · cases h
  · cases h
attribute [simp] SPre
end Go.Proofs.Ythkiklpcglogpaa.ZRat
namespace Go.Proofs.Ythkiklpcglogpaa.ZRat
open Go.RowKit Go.Proofs.Ythkiklpcglogpaa.Wd
open Go Go.Proofs.Ythkiklpcglogpaa.Ab Go.Proofs Go.Proofs.Ythkiklpcglogpaa.Num Go.Proofs.Ythkiklpcglogpaa.ZRatP
set_option linter.unusedSimpArgs false
set_option linter.unusedVariables false
set_option maxHeartbeats 8000000
set_option maxRecDepth 100000
noncomputable def NParse : List AV → Option AV
  | [x] => (unS x).bind fun s => if s.size ≤ 1000000000 then some (.tup [rowI .u32 (parseR 4294967296 (Wd.bytesOf s)).1, .int .i64 (parseR 4294967296 (Wd.bytesOf s)).2]) else none
  | _ => none
theorem sNParse : GoodS (19, NParse) := by
  intro xs r h
  simp only at h
  unfold NParse at h
  split at h
  · obtain ⟨s, h0, h⟩ := Option.bind_eq_some_iff.1 h
    split at h
    · rename_i hz
      cases h
      obtain rfl := unS_eq h0
      obtain ⟨k, hk⟩ := (Parse_f s (by omega)).rounds
      exact .inl <| okW_ends (mkE_ok all_nil all_nil) mixed Try.func19 rfl (by kernel_rfl : Fits Try.prog E19.ref E19.dep Try.f19 = true) (n19_run k s (by omega) _ hk)
    · cases h
  · cases h
noncomputable def RParse : List AV → Option AV
  | [x] => (unS x).bind fun s => if s.size ≤ 1000000000 then some (.tup [rowI .i64 (parseR 65536 (Wd.bytesOf s)).1, .int .i64 (parseR 65536 (Wd.bytesOf s)).2]) else none
  | _ => none
theorem sRParse : GoodS (13, RParse) := by
  intro xs r h
  simp only at h
  unfold RParse at h
  split at h
  · obtain ⟨s, h0, h⟩ := Option.bind_eq_some_iff.1 h
    split at h
    · rename_i hz
      cases h
      obtain rfl := unS_eq h0
      obtain ⟨k, hk⟩ := (RParse_f s (by omega)).rounds
      exact .inl <| okW_ends (mkE_ok (all_cons good31 (all_cons good32 (all_cons good33 all_nil))) (all_cons goodR31 (all_cons goodR32 (all_cons goodR33 all_nil)))) mixed Try.func13 rfl (by kernel_rfl : Fits Try.prog E13.ref E13.dep Try.f13 = true) (n13_run k s _ hk)
    · cases h
  · cases h
noncomputable def DShow : List AV → Option AV
  | [x] => (digD 100000000 x).bind fun n => some (.str (showS n))
  | _ => none
theorem sDShow : GoodS (47, DShow) := by
  intro xs r h
  simp only at h
  unfold DShow at h
  split at h
  · obtain ⟨n, h0, h⟩ := Option.bind_eq_some_iff.1 h
    cases h
    obtain ⟨rfl, b⟩ := digD_out h0
    obtain ⟨k, hk⟩ := (RShow_f n (by omega)).rounds
    exact .inl <| okW_ends mkT_ok mixed Try.func47 rfl (by kernel_rfl : Fits Try.prog E47.ref E47.dep Try.f47 = true) (n47_run k _ _ hk)
  · cases h
noncomputable def Wnorm : List AV → Option AV
  | [b, x] => (intC 1000000 b x).bind fun z => some (intA z)
  | _ => none
theorem sWnorm : GoodS (39, Wnorm) := by
  intro xs r h
  simp only at h
  unfold Wnorm at h
  split at h
  · obtain ⟨z, h0, h⟩ := Option.bind_eq_some_iff.1 h
    cases h
    obtain ⟨s, l, rfl, rfl, _, w, b, rfl⟩ := intC_out h0
    have p := ev_pick (fun k r h => whole_norm.mono _ _ k r h) (norm_f s l w (by omega))
    refine .inl (good39 _ _ ?_)
    simp only [SV, SV39, intA, natA, unI_rowI, unB, Option.bind_some]
    rw [p]
    rfl
  · cases h
attribute [simp] NParse RParse DShow Wnorm
noncomputable def parseZ (s : ByteArray) : Int × Int := if minus s = true then (if (parseR 65536 (Wd.bytesOf (s.extract 1 s.size))).2 = 0 then (if valS (Wd.bytesOf (s.extract 1 s.size)) = 0 then (0, 4) else (-(valS (Wd.bytesOf (s.extract 1 s.size)) : Int), 0)) else (0, (parseR 65536 (Wd.bytesOf (s.extract 1 s.size))).2)) else (if (parseR 65536 (Wd.bytesOf s)).2 = 0 then ((valS (Wd.bytesOf s) : Int), 0) else (0, (parseR 65536 (Wd.bytesOf s)).2))
theorem valS_SzN (xs : List Int) (j : Nat) (h : okS xs) (hl : xs.length ≤ 2 * j) : SzN (valS xs) j := ⟨valS_Sz xs j h hl⟩
theorem IVal_trueM (n : Nat) : IVal true (NB 4294967296 n) = -(n : Int) := by unfold IVal; rw [VB_NB (by omega)]; rfl
theorem parseR_cases (b c : Nat) (xs : List Int) : ((parseR c xs).2 = 0 ∧ parseR b xs = (NB b (valS xs), 0) ∧ SzN (valS xs) 1000) ∨ (¬ (parseR c xs).2 = 0 ∧ parseR b xs = ([], (parseR c xs).2)) := by
  obtain ⟨e, bad⟩ := parseR_bad b c xs
  by_cases h : (parseR c xs).2 = 0
  · obtain ⟨g1, g2, g3⟩ := parseR_ok b xs (e ▸ h)
    exact .inl ⟨h, g1, valS_SzN xs 1000 g2 (by omega)⟩
  · exact .inr ⟨h, by rw [bad (e ▸ h), e]⟩
theorem minus_bt (s : ByteArray) (h : 0 < s.size) : minus s = decide (bt s 0 = 45) := by
  unfold minus
  rw [← rd_bytesOf]
  have hl := bytesOf_length s
  cases hx : Wd.bytesOf s with
  | nil => rw [hx] at hl; simp at hl; omega
  | cons c cs => simp [rd]
noncomputable def WParse : List AV → Option AV
  | [x0] => (unS x0).bind fun a0 => if a0.size ≤ 1000000 then some (.tup [intA (parseZ a0).1, .int .i64 (parseZ a0).2]) else none
  | _ => none
noncomputable def E_WParse : Env := mkS [(38, SPre), (19, NParse), (39, Wnorm)] [] []
theorem run_WParse (a0 : ByteArray) (hc : a0.size ≤ 1000000) : AEnds E_WParse (finW Try.prog Try.f18.results) 0 [.code (Try.f18.body.getD .skip)] (startA Try.f18 [.str a0] [] []) (.tup [intA (parseZ a0).1, .int .i64 (parseZ a0).2]) := by
  simp only [Try.f18, Option.getD_some, startA]
  have z : (a0.extract 1 a0.size).size ≤ a0.size := by simp
  unfold parseZ
  by_cases hm : minus a0 = true
  · rw [if_pos hm]
    have z2 : (a0.extract 1 a0.size).size ≤ 1000000000 := by omega
    rcases parseR_cases 4294967296 65536 (Wd.bytesOf (a0.extract 1 a0.size)) with ⟨h1, h2, h3⟩ | ⟨h1, h2⟩
    · rw [if_pos h1]
      by_cases hv : valS (Wd.bytesOf (a0.extract 1 a0.size)) = 0
      · rw [if_pos hv]
        simp (maxSteps := 4000000) (disch := (first | with_reducible rfl | assumption | with_reducible exact WB_NB _ _ | (with_reducible refine nb_le ?_; omega) | (with_reducible refine nb16_le ?_; omega) | omega | (simp only [List.length_append, List.length_map, List.length_cons, List.length_nil, List.length_set, List.length_replicate, List.length_take, List.size_toArray]; omega))) [E_WParse, hm, h2, hv, hc, z2]
      · rw [if_neg hv]
        have hp : 0 < valS (Wd.bytesOf (a0.extract 1 a0.size)) := by omega
        simp (maxSteps := 4000000) (disch := (first | with_reducible rfl | assumption | with_reducible exact WB_NB _ _ | (with_reducible refine nb_le ?_; omega) | (with_reducible refine nb16_le ?_; omega) | omega | (simp only [List.length_append, List.length_map, List.length_cons, List.length_nil, List.length_set, List.length_replicate, List.length_take, List.size_toArray]; omega))) [E_WParse, hm, h2, hv, hp, hc, z2, IVal_trueM]
    · rw [if_neg h1]
      simp (maxSteps := 4000000) (disch := (first | with_reducible rfl | assumption | with_reducible exact WB_NB _ _ | (with_reducible refine nb_le ?_; omega) | (with_reducible refine nb16_le ?_; omega) | omega | (simp only [List.length_append, List.length_map, List.length_cons, List.length_nil, List.length_set, List.length_replicate, List.length_take, List.size_toArray]; omega))) [E_WParse, hm, h1, h2, hc, z2]
  · rw [if_neg hm]
    have z2 : a0.size ≤ 1000000000 := by omega
    rcases parseR_cases 4294967296 65536 (Wd.bytesOf a0) with ⟨h1, h2, h3⟩ | ⟨h1, h2⟩
    · rw [if_pos h1]
      simp (maxSteps := 4000000) (disch := (first | with_reducible rfl | assumption | with_reducible exact WB_NB _ _ | (with_reducible refine nb_le ?_; omega) | (with_reducible refine nb16_le ?_; omega) | omega | (simp only [List.length_append, List.length_map, List.length_cons, List.length_nil, List.length_set, List.length_replicate, List.length_take, List.size_toArray]; omega))) [E_WParse, hm, h2, hc, z2]
    · rw [if_neg h1]
      simp (maxSteps := 4000000) (disch := (first | with_reducible rfl | assumption | with_reducible exact WB_NB _ _ | (with_reducible refine nb_le ?_; omega) | (with_reducible refine nb16_le ?_; omega) | omega | (simp only [List.length_append, List.length_map, List.length_cons, List.length_nil, List.length_set, List.length_replicate, List.length_take, List.size_toArray]; omega))) [E_WParse, hm, h1, h2, hc, z2]
theorem sWParse : GoodS (18, WParse) := by
  intro xs r h
  simp only at h
  unfold WParse at h
  split at h
  · obtain ⟨a0, h0, h⟩ := Option.bind_eq_some_iff.1 h
    split at h
    · rename_i hc
      cases h
      obtain rfl := unS_eq h0
      exact .inl <| okW_ends (mkS_ok (alls_cons sSPre (alls_cons sNParse (alls_cons sWnorm alls_nil)))) mixed Try.func18 rfl (by kernel_rfl : Fits Try.prog E_WParse.ref E_WParse.dep Try.f18 = true) (run_WParse _ hc)
    · cases h
  · cases h
attribute [simp] WParse
noncomputable def Whole1 : List AV → Option AV
  | [x0] => (unS x0).bind fun a0 => if a0.size ≤ 1000000 then some (.tup [rintA (parseZ a0).1, .int .i64 (parseZ a0).2]) else none
  | _ => none
noncomputable def E_Whole1 : Env := mkS [(13, RParse)] [] []
theorem run_Whole1 (a0 : ByteArray) (hc : a0.size ≤ 1000000) : AEnds E_Whole1 (finW Try.prog Try.f12.results) 0 [.code (Try.f12.body.getD .skip)] (startA Try.f12 [.str a0] [] []) (.tup [rintA (parseZ a0).1, .int .i64 (parseZ a0).2]) := by
  simp only [Try.f12, Option.getD_some, startA]
  have z : (a0.extract 1 a0.size).size ≤ a0.size := by simp
  have z3 : a0.size ≤ 1000000000 := by omega
  unfold parseZ
  by_cases hm : minus a0 = true
  · rw [if_pos hm]
    have z2 : (a0.extract 1 a0.size).size ≤ 1000000000 := by omega
    have h0 := minus_pos a0 hm
    have h0' : (0 : Int) < (a0.size : Int) := by omega
    have h0'' : (1 : Int) ≤ (a0.size : Int) := by omega
    have hb := minus_bt a0 h0
    rw [hm] at hb
    have hb := of_decide_eq_true hb.symm
    rcases parseR_cases 65536 65536 (Wd.bytesOf (a0.extract 1 a0.size)) with ⟨h1, h2, h3⟩ | ⟨h1, h2⟩
    · rw [if_pos h1]
      by_cases hv : valS (Wd.bytesOf (a0.extract 1 a0.size)) = 0
      · rw [if_pos hv]
        simp (maxSteps := 4000000) (disch := (first | with_reducible rfl | assumption | with_reducible exact WB_NB _ _ | (with_reducible refine nb_le ?_; omega) | (with_reducible refine nb16_le ?_; omega) | omega | (simp only [List.length_append, List.length_map, List.length_cons, List.length_nil, List.length_set, List.length_replicate, List.length_take, List.size_toArray]; omega))) [E_Whole1, h0', h0'', hb, h2, hv, hc, z2]
      · rw [if_neg hv]
        have hp : 0 < valS (Wd.bytesOf (a0.extract 1 a0.size)) := by omega
        have hg : ((valS (Wd.bytesOf (a0.extract 1 a0.size)) : Nat) : Int).sign = 1 := Int.sign_eq_one_of_pos (by omega)
        simp (maxSteps := 4000000) (disch := (first | with_reducible rfl | assumption | with_reducible exact WB_NB _ _ | (with_reducible refine nb_le ?_; omega) | (with_reducible refine nb16_le ?_; omega) | omega | (simp only [List.length_append, List.length_map, List.length_cons, List.length_nil, List.length_set, List.length_replicate, List.length_take, List.size_toArray]; omega))) [E_Whole1, h0', h0'', hb, h2, hv, hp, hg, hc, z2]
    · rw [if_neg h1]
      generalize (parseR 65536 (Wd.bytesOf (a0.extract 1 a0.size))).2 = e at *
      simp (maxSteps := 4000000) (disch := (first | with_reducible rfl | assumption | with_reducible exact WB_NB _ _ | (with_reducible refine nb_le ?_; omega) | (with_reducible refine nb16_le ?_; omega) | omega | (simp only [List.length_append, List.length_map, List.length_cons, List.length_nil, List.length_set, List.length_replicate, List.length_take, List.size_toArray]; omega))) [E_Whole1, h0', h0'', hb, h1, h2, hc, z2]
  · rw [if_neg hm]
    rcases parseR_cases 65536 65536 (Wd.bytesOf a0) with ⟨h1, h2, h3⟩ | ⟨h1, h2⟩
    · rw [if_pos h1]
      by_cases h0 : 0 < (a0.size : Int)
      · have hb : ¬ bt a0 0 = 45 := fun e => hm (by rw [minus_bt a0 (by omega), e]; rfl)
        by_cases hv : valS (Wd.bytesOf a0) = 0
        · simp (maxSteps := 4000000) (disch := (first | with_reducible rfl | assumption | with_reducible exact WB_NB _ _ | (with_reducible refine nb_le ?_; omega) | (with_reducible refine nb16_le ?_; omega) | omega | (simp only [List.length_append, List.length_map, List.length_cons, List.length_nil, List.length_set, List.length_replicate, List.length_take, List.size_toArray]; omega))) [E_Whole1, h0, hb, h2, hv, hc, z3]
        · have hp : 0 < valS (Wd.bytesOf a0) := by omega
          have hg : ((valS (Wd.bytesOf a0) : Nat) : Int).sign = 1 := Int.sign_eq_one_of_pos (by omega)
          simp (maxSteps := 4000000) (disch := (first | with_reducible rfl | assumption | with_reducible exact WB_NB _ _ | (with_reducible refine nb_le ?_; omega) | (with_reducible refine nb16_le ?_; omega) | omega | (simp only [List.length_append, List.length_map, List.length_cons, List.length_nil, List.length_set, List.length_replicate, List.length_take, List.size_toArray]; omega))) [E_Whole1, h0, hb, h2, hv, hp, hg, hc, z3]
      · by_cases hv : valS (Wd.bytesOf a0) = 0
        · simp (maxSteps := 4000000) (disch := (first | with_reducible rfl | assumption | with_reducible exact WB_NB _ _ | (with_reducible refine nb_le ?_; omega) | (with_reducible refine nb16_le ?_; omega) | omega | (simp only [List.length_append, List.length_map, List.length_cons, List.length_nil, List.length_set, List.length_replicate, List.length_take, List.size_toArray]; omega))) [E_Whole1, h0, h2, hv, hc, z3]
        · have hp : 0 < valS (Wd.bytesOf a0) := by omega
          have hg : ((valS (Wd.bytesOf a0) : Nat) : Int).sign = 1 := Int.sign_eq_one_of_pos (by omega)
          simp (maxSteps := 4000000) (disch := (first | with_reducible rfl | assumption | with_reducible exact WB_NB _ _ | (with_reducible refine nb_le ?_; omega) | (with_reducible refine nb16_le ?_; omega) | omega | (simp only [List.length_append, List.length_map, List.length_cons, List.length_nil, List.length_set, List.length_replicate, List.length_take, List.size_toArray]; omega))) [E_Whole1, h0, h2, hv, hp, hg, hc, z3]
    · rw [if_neg h1]
      generalize (parseR 65536 (Wd.bytesOf a0)).2 = e at *
      by_cases h0 : 0 < (a0.size : Int)
      · have hb : ¬ bt a0 0 = 45 := fun e => hm (by rw [minus_bt a0 (by omega), e]; rfl)
        simp (maxSteps := 4000000) (disch := (first | with_reducible rfl | assumption | with_reducible exact WB_NB _ _ | (with_reducible refine nb_le ?_; omega) | (with_reducible refine nb16_le ?_; omega) | omega | (simp only [List.length_append, List.length_map, List.length_cons, List.length_nil, List.length_set, List.length_replicate, List.length_take, List.size_toArray]; omega))) [E_Whole1, h0, hb, h1, h2, hc, z3]
      · simp (maxSteps := 4000000) (disch := (first | with_reducible rfl | assumption | with_reducible exact WB_NB _ _ | (with_reducible refine nb_le ?_; omega) | (with_reducible refine nb16_le ?_; omega) | omega | (simp only [List.length_append, List.length_map, List.length_cons, List.length_nil, List.length_set, List.length_replicate, List.length_take, List.size_toArray]; omega))) [E_Whole1, h0, h1, h2, hc, z3]
theorem sWhole1 : GoodS (12, Whole1) := by
  intro xs r h
  simp only at h
  unfold Whole1 at h
  split at h
  · obtain ⟨a0, h0, h⟩ := Option.bind_eq_some_iff.1 h
    split at h
    · rename_i hc
      cases h
      obtain rfl := unS_eq h0
      exact .inl <| okW_ends (mkS_ok (alls_cons sRParse alls_nil)) mixed Try.func12 rfl (by kernel_rfl : Fits Try.prog E_Whole1.ref E_Whole1.dep Try.f12 = true) (run_Whole1 _ hc)
    · cases h
  · cases h
attribute [simp] Whole1
noncomputable def ZShow : List AV → Option AV
  | [x0] => (rintD 1000000 x0).bind fun a0 => some (.str (showZ a0))
  | _ => none
noncomputable def E_ZShow : Env := mkS [(47, DShow)] [] []
theorem run_ZShow (a0 : Int) (b0 : (NB 65536 a0.natAbs).length ≤ 1000000) : AEnds E_ZShow (finW Try.prog Try.f24.results) 0 [.code (Try.f24.body.getD .skip)] (startA Try.f24 [rintA a0] [] []) (.str (showZ a0)) := by
  haveI := SzI.dig b0
  simp only [Try.f24, Option.getD_some, startA]
  by_cases hs : a0 < 0
  · have z1 := showS_le (n := a0.natAbs) ⟨(SzI.dig (L := 1000000) b0).lt⟩
    simp (maxSteps := 4000000) (disch := (first | with_reducible rfl | assumption | with_reducible exact WB_NB _ _ | (with_reducible refine nb_le ?_; omega) | (with_reducible refine nb16_le ?_; omega) | omega | (simp only [List.length_append, List.length_map, List.length_cons, List.length_nil, List.length_set, List.length_replicate, List.length_take, List.size_toArray]; omega))) [E_ZShow, hs, showZ, sign_lt]
  · simp (maxSteps := 4000000) (disch := (first | with_reducible rfl | assumption | with_reducible exact WB_NB _ _ | (with_reducible refine nb_le ?_; omega) | (with_reducible refine nb16_le ?_; omega) | omega | (simp only [List.length_append, List.length_map, List.length_cons, List.length_nil, List.length_set, List.length_replicate, List.length_take, List.size_toArray]; omega))) [E_ZShow, hs, showZ, sign_lt]
theorem sZShow : GoodS (24, ZShow) := by
  intro xs r h
  simp only at h
  unfold ZShow at h
  split at h
  · obtain ⟨a0, h0, h⟩ := Option.bind_eq_some_iff.1 h
    cases h
    obtain ⟨rfl, b0⟩ := rintD_out h0
    exact .inl <| okW_ends (mkS_ok (alls_cons sDShow alls_nil)) mixed Try.func24 rfl (by kernel_rfl : Fits Try.prog E_ZShow.ref E_ZShow.dep Try.f24 = true) (run_ZShow _ b0)
  · cases h
attribute [simp] ZShow
end Go.Proofs.Ythkiklpcglogpaa.ZRat
namespace Go.Proofs.Ythkiklpcglogpaa.ZRat
open Go.RowKit Go.Proofs.Ythkiklpcglogpaa.Wd
open Go Go.Proofs.Ythkiklpcglogpaa.Ab Go.Proofs Go.Proofs.Ythkiklpcglogpaa.Num Go.Proofs.Ythkiklpcglogpaa.ZRatP
set_option linter.unusedSimpArgs false
set_option linter.unusedVariables false
set_option maxHeartbeats 8000000
set_option maxRecDepth 100000
theorem beqL (x y : ByteArray) : (x.toList == y.toList) = decide (x = y) := by
  have hi : ∀ x y : ByteArray, x.toList = y.toList → x = y := fun x y h => by
    rw [toList_data, toList_data] at h
    exact ByteArray.ext (Array.ext' h)
  by_cases h : x = y
  · subst h; simp
  · rw [decide_eq_false h, beq_eq_false_iff_ne]; exact fun e => h (hi _ _ e)
theorem showZ_nat (n : Nat) : showZ (n : Int) = showS n := by unfold showZ; rw [if_neg (by omega), Int.natAbs_natCast]
theorem SzI.neg' {n j : Nat} (h : SzN n j) : SzI (-(n : Int)) j := ⟨by rw [Int.natAbs_neg, Int.natAbs_natCast]; exact h.lt⟩
theorem SzI.nat' {n j : Nat} (h : SzN n j) : SzI (n : Int) j := ⟨by rw [Int.natAbs_natCast]; exact h.lt⟩
theorem SzI.zero' {j : Nat} : SzI 0 j := ⟨by simpa using Nat.pow_pos (by omega)⟩
theorem parseZ_sz (s : ByteArray) : SzI (parseZ s).1 1000 := by
  unfold parseZ
  by_cases hm : minus s = true
  · rw [if_pos hm]
    rcases parseR_cases 65536 65536 (Wd.bytesOf (s.extract 1 s.size)) with ⟨h1, _, h3⟩ | ⟨h1, _⟩
    · rw [if_pos h1]
      split
      · exact SzI.zero'
      · exact SzI.neg' h3
    · rw [if_neg h1]; exact SzI.zero'
  · rw [if_neg hm]
    rcases parseR_cases 65536 65536 (Wd.bytesOf s) with ⟨h1, _, h3⟩ | ⟨h1, _⟩
    · rw [if_pos h1]; exact SzI.nat' h3
    · rw [if_neg h1]; exact SzI.zero'
instance {s : ByteArray} : SzI (parseZ s).1 1000 := parseZ_sz s
noncomputable def fin (s : ByteArray) (q : Rat) : Rat × Int := if showP q.num q.den = s then (q, 0) else (0, 4)
noncomputable def parseQ (s : ByteArray) : Rat × Int :=
  if 0 ≤ sl s then (if (parseZ (s.extract 0 (sl s).toNat)).2 = 0 then (if (parseR 65536 (Wd.bytesOf (s.extract (sl s + 1).toNat s.size))).2 = 0 then fin s (mkRat (parseZ (s.extract 0 (sl s).toNat)).1 (valS (Wd.bytesOf (s.extract (sl s + 1).toNat s.size)))) else (0, (parseR 65536 (Wd.bytesOf (s.extract (sl s + 1).toNat s.size))).2)) else (0, (parseZ (s.extract 0 (sl s).toNat)).2))
  else (if (parseZ s).2 = 0 then fin s (mkRat (parseZ s).1 1) else (0, (parseZ s).2))
noncomputable def FShow : List AV → Option AV
  | [x0] => (rratD 10000 x0).bind fun a0 => if a0.2 ≠ 0 then some (.str (showP (mkRat a0.1 a0.2.natAbs).num (mkRat a0.1 a0.2.natAbs).den)) else none
  | _ => none
noncomputable def E_FShow : Env := mkS [(21, FLow), (22, ZCmp), (23, ZLong), (24, ZShow)] [] []
theorem run_FShow (n0 d0 : Int) (b0 : (NB 65536 n0.natAbs).length ≤ 10000) (c0 : (NB 65536 d0.natAbs).length ≤ 10000) (hc : d0 ≠ 0) : AEnds E_FShow (finW Try.prog Try.f8.results) 0 [.code (Try.f8.body.getD .skip)] (startA Try.f8 [rratA n0 d0] [] []) (.str (showP (mkRat n0 d0.natAbs).num (mkRat n0 d0.natAbs).den)) := by
  haveI := SzI.dig b0
  haveI := SzI.dig c0
  simp only [Try.f8, Option.getD_some, startA]
  have hd : ¬ d0.natAbs = 0 := by omega
  haveI hQ : SzQ (mkRat n0 d0.natAbs) _ := inferInstance
  generalize hq : mkRat n0 d0.natAbs = q at *
  have hS : ((q.den : Nat) : Int).sign = 1 := Int.sign_eq_one_of_pos (by have := q.den_pos; omega)
  have hp : 0 < q.den := q.den_pos
  have z1 := showZ_le ⟨hQ.num⟩
  have z2 := showS_le ⟨hQ.den⟩
  by_cases h1 : q.den = 1
  · simp (maxSteps := 4000000) (disch := (first | with_reducible rfl | assumption | with_reducible exact WB_NB _ _ | (with_reducible refine nb_le ?_; omega) | (with_reducible refine nb16_le ?_; omega) | omega | (simp only [List.length_append, List.length_map, List.length_cons, List.length_nil, List.length_set, List.length_replicate, List.length_take, List.size_toArray]; omega))) [E_FShow, hc, hd, hq, h1, hS, showP, cmpZ]
  · have hc2 : ¬ cmpZ (q.den : Int) 1 = 0 := by unfold cmpZ; split <;> (try split) <;> omega
    simp (maxSteps := 4000000) (disch := (first | with_reducible rfl | assumption | with_reducible exact WB_NB _ _ | (with_reducible refine nb_le ?_; omega) | (with_reducible refine nb16_le ?_; omega) | omega | (simp only [List.length_append, List.length_map, List.length_cons, List.length_nil, List.length_set, List.length_replicate, List.length_take, List.size_toArray]; omega))) [E_FShow, hc, hd, hq, h1, hS, hc2, showP, showZ_nat]
theorem sFShow : GoodS (8, FShow) := by
  intro xs r h
  simp only at h
  unfold FShow at h
  split at h
  · obtain ⟨a0, h0, h⟩ := Option.bind_eq_some_iff.1 h
    split at h
    · rename_i hc
      cases h
      obtain ⟨rfl, b0, c0⟩ := rratD_out h0
      exact .inl <| okW_ends (mkS_ok (alls_cons sFLow (alls_cons sZCmp (alls_cons sZLong (alls_cons sZShow alls_nil))))) mixed Try.func8 rfl (by kernel_rfl : Fits Try.prog E_FShow.ref E_FShow.dep Try.f8 = true) (run_FShow _ _ b0 c0 hc)
    · cases h
  · cases h
attribute [simp] FShow
noncomputable def RParse5 : List AV → Option AV
  | [x0] => (unS x0).bind fun a0 => if a0.size ≤ 1000000 then some (.tup [ratA (parseQ a0).1, .int .i64 (parseQ a0).2]) else none
  | _ => none
noncomputable def E_RParse5 : Env := mkS [(17, SCut), (18, WParse), (19, NParse), (20, Rlowest), (15, Rshow), (16, Rnorm)] [] []
theorem run_RParse5 (a0 : ByteArray) (hc : a0.size ≤ 1000000) : AEnds E_RParse5 (finW Try.prog Try.f7.results) 0 [.code (Try.f7.body.getD .skip)] (startA Try.f7 [.str a0] [] []) (.tup [ratA (parseQ a0).1, .int .i64 (parseQ a0).2]) := by
  simp only [Try.f7, Option.getD_some, startA]
  have hs : a0.size ≤ 1000000000000 := by omega
  unfold parseQ
  by_cases h : 0 ≤ sl a0
  · rw [if_pos h]
    have y1 : (a0.extract 0 (sl a0).toNat).size ≤ a0.size := by simp; omega
    have y2 : (a0.extract (sl a0 + 1).toNat a0.size).size ≤ a0.size := by simp
    have y3 : (a0.extract 0 (sl a0).toNat).size ≤ 1000000 := by omega
    have y4 : (a0.extract (sl a0 + 1).toNat a0.size).size ≤ 1000000000 := by omega
    generalize hA : a0.extract 0 (sl a0).toNat = A at *
    generalize hB : a0.extract (sl a0 + 1).toNat a0.size = B at *
    by_cases he : (parseZ A).2 = 0
    · rw [if_pos he]
      rcases parseR_cases 4294967296 65536 (Wd.bytesOf B) with ⟨h1, h2, h3⟩ | ⟨h1, h2⟩
      · rw [if_pos h1]
        haveI hQ : SzQ (mkRat (parseZ A).1 (valS (Wd.bytesOf B))) _ := inferInstance
        generalize hq : mkRat (parseZ A).1 (valS (Wd.bytesOf B)) = q at *
        unfold fin
        by_cases hw : showP q.num q.den = a0
        · rw [if_pos hw]
          simp (maxSteps := 4000000) (disch := (first | with_reducible rfl | assumption | with_reducible exact WB_NB _ _ | (with_reducible refine nb_le ?_; omega) | (with_reducible refine nb16_le ?_; omega) | omega | (simp only [List.length_append, List.length_map, List.length_cons, List.length_nil, List.length_set, List.length_replicate, List.length_take, List.size_toArray]; omega))) [E_RParse5, h, hs, hA, hB, y3, y4, he, h2, hq, hw, beqL]
        · rw [if_neg hw]
          simp (maxSteps := 4000000) (disch := (first | with_reducible rfl | assumption | with_reducible exact WB_NB _ _ | (with_reducible refine nb_le ?_; omega) | (with_reducible refine nb16_le ?_; omega) | omega | (simp only [List.length_append, List.length_map, List.length_cons, List.length_nil, List.length_set, List.length_replicate, List.length_take, List.size_toArray]; omega))) [E_RParse5, h, hs, hA, hB, y3, y4, he, h2, hq, hw, beqL]
      · rw [if_neg h1]
        generalize (parseR 65536 (Wd.bytesOf B)).2 = e at *
        simp (maxSteps := 4000000) (disch := (first | with_reducible rfl | assumption | with_reducible exact WB_NB _ _ | (with_reducible refine nb_le ?_; omega) | (with_reducible refine nb16_le ?_; omega) | omega | (simp only [List.length_append, List.length_map, List.length_cons, List.length_nil, List.length_set, List.length_replicate, List.length_take, List.size_toArray]; omega))) [E_RParse5, h, hs, hA, hB, y3, y4, he, h1, h2, beqL]
    · rw [if_neg he]
      simp (maxSteps := 4000000) (disch := (first | with_reducible rfl | assumption | with_reducible exact WB_NB _ _ | (with_reducible refine nb_le ?_; omega) | (with_reducible refine nb16_le ?_; omega) | omega | (simp only [List.length_append, List.length_map, List.length_cons, List.length_nil, List.length_set, List.length_replicate, List.length_take, List.size_toArray]; omega))) [E_RParse5, h, hs, hA, hB, y3, y4, he, beqL]
  · rw [if_neg h]
    by_cases he : (parseZ a0).2 = 0
    · rw [if_pos he]
      haveI hQ : SzQ (mkRat (parseZ a0).1 1) _ := inferInstance
      generalize hq : mkRat (parseZ a0).1 1 = q at *
      unfold fin
      by_cases hw : showP q.num q.den = a0
      · rw [if_pos hw]
        simp (maxSteps := 4000000) (disch := (first | with_reducible rfl | assumption | with_reducible exact WB_NB _ _ | (with_reducible refine nb_le ?_; omega) | (with_reducible refine nb16_le ?_; omega) | omega | (simp only [List.length_append, List.length_map, List.length_cons, List.length_nil, List.length_set, List.length_replicate, List.length_take, List.size_toArray]; omega))) [E_RParse5, h, hs, hc, he, hq, hw, beqL]
      · rw [if_neg hw]
        simp (maxSteps := 4000000) (disch := (first | with_reducible rfl | assumption | with_reducible exact WB_NB _ _ | (with_reducible refine nb_le ?_; omega) | (with_reducible refine nb16_le ?_; omega) | omega | (simp only [List.length_append, List.length_map, List.length_cons, List.length_nil, List.length_set, List.length_replicate, List.length_take, List.size_toArray]; omega))) [E_RParse5, h, hs, hc, he, hq, hw, beqL]
    · rw [if_neg he]
      simp (maxSteps := 4000000) (disch := (first | with_reducible rfl | assumption | with_reducible exact WB_NB _ _ | (with_reducible refine nb_le ?_; omega) | (with_reducible refine nb16_le ?_; omega) | omega | (simp only [List.length_append, List.length_map, List.length_cons, List.length_nil, List.length_set, List.length_replicate, List.length_take, List.size_toArray]; omega))) [E_RParse5, h, hs, hc, he, beqL]
theorem sRParse5 : GoodS (7, RParse5) := by
  intro xs r h
  simp only at h
  unfold RParse5 at h
  split at h
  · obtain ⟨a0, h0, h⟩ := Option.bind_eq_some_iff.1 h
    split at h
    · rename_i hc
      cases h
      obtain rfl := unS_eq h0
      exact .inl <| okW_ends (mkS_ok (alls_cons sSCut (alls_cons sWParse (alls_cons sNParse (alls_cons sRlowest (alls_cons sRshow (alls_cons sRnorm alls_nil))))))) mixed Try.func7 rfl (by kernel_rfl : Fits Try.prog E_RParse5.ref E_RParse5.dep Try.f7 = true) (run_RParse5 _ hc)
    · cases h
  · cases h
attribute [simp] RParse5
end Go.Proofs.Ythkiklpcglogpaa.ZRat
namespace Go.Proofs.Ythkiklpcglogpaa.ZRat
open Go.RowKit Go.Proofs.Ythkiklpcglogpaa.Wd
open Go Go.Proofs.Ythkiklpcglogpaa.Ab Go.Proofs Go.Proofs.Ythkiklpcglogpaa.Num Go.Proofs.Ythkiklpcglogpaa.ZRatP
set_option linter.unusedSimpArgs false
set_option linter.unusedVariables false
set_option maxHeartbeats 8000000
set_option maxRecDepth 100000
theorem idx_none : ∀ (l : List UInt8), (∀ x ∈ l, x ≠ 47) → Lib.indexByte l 47 = -1
  | [], _ => rfl
  | b :: l, h => by
    have hb : (b == 47) = false := beq_eq_false_iff_ne.2 (h b (by simp))
    have ih := idx_none l (fun x hx => h x (by simp [hx]))
    simp [Lib.indexByte, hb, ih]
theorem idx_at : ∀ (l m : List UInt8), (∀ x ∈ l, x ≠ 47) → Lib.indexByte (l ++ 47 :: m) 47 = (l.length : Int)
  | [], m, _ => by simp [Lib.indexByte]
  | b :: l, m, h => by
    have hb : (b == 47) = false := beq_eq_false_iff_ne.2 (h b (by simp))
    have ih := idx_at l m (fun x hx => h x (by simp [hx]))
    have hn : ((l.length : Int) == -1) = false := beq_eq_false_iff_ne.2 (by omega)
    simp [Lib.indexByte, hb, ih, hn]
theorem no47 (s : ByteArray) (h : ∀ x ∈ Wd.bytesOf s, x ≠ 47) : ∀ x ∈ s.data.toList, x ≠ 47 := fun x hx e => by
  subst e
  exact h 47 (by unfold Wd.bytesOf; exact List.mem_map.2 ⟨47, hx, rfl⟩) rfl
theorem z47 (z : Int) : ∀ x ∈ Wd.bytesOf (showZ z), x ≠ 47 := fun x hx => by
  rw [bytes_showZ] at hx
  split at hx
  · rcases List.mem_cons.1 hx with h | h
    · omega
    · have := decS_range _ x h; omega
  · have := decS_range _ x hx; omega
theorem dec_lt (n j : Nat) (h : n < 4294967296 ^ j) (hj : 10 * j ≤ 2000) : n < 10 ^ 2000 := lt_dec' n j 2000 h hj
theorem parseZ_show (z : Int) (j : Nat) (h : z.natAbs < 4294967296 ^ j) (hj : 10 * j ≤ 2000) : parseZ (showZ z) = (z, 0) := by
  have hd := parseR_decS 65536 z.natAbs (dec_lt _ j h hj)
  unfold parseZ
  by_cases hz : z < 0
  · have hb := bytes_showZ z
    rw [if_pos hz] at hb
    have hm : minus (showZ z) = true := by unfold minus; rw [hb]; rfl
    have ht := bytes_drop (showZ z) 1
    rw [hb, List.drop_one, List.tail_cons] at ht
    rw [if_pos hm, ht, hd, if_pos rfl, valS_decS, if_neg (by omega)]
    exact Prod.ext (by show -((z.natAbs : Nat) : Int) = z; omega) rfl
  · have hb := bytes_showZ z
    rw [if_neg hz] at hb
    have hm : ¬ minus (showZ z) = true := by
      unfold minus; rw [hb]
      intro e
      have e := of_decide_eq_true e
      have : (45 : Int) ∈ decS z.natAbs := by
        cases hx : decS z.natAbs with
        | nil => rw [hx] at e; cases e
        | cons c cs => rw [hx] at e; simp at e; subst e; simp
      have := decS_range _ _ this; omega
    rw [if_neg hm, hb, hd, if_pos rfl, valS_decS]
    exact Prod.ext (by show ((z.natAbs : Nat) : Int) = z; omega) rfl
theorem parseQ_show (q : Rat) (j : Nat) [h : SzQ q j] (hj : 10 * j ≤ 2000) : parseQ (showP q.num q.den) = (q, 0) := by
  have hz := parseZ_show q.num j h.num hj
  have hself := Rat.mkRat_self q
  unfold parseQ fin
  by_cases hd : q.den = 1
  · have hp : showP q.num q.den = showZ q.num := by unfold showP; rw [if_pos hd]
    have hs : sl (showZ q.num) = -1 := idx_none _ (no47 _ (z47 _))
    rw [hp, hs, if_neg (by omega), hz, if_pos rfl]
    have : mkRat q.num 1 = q := by rw [hd] at hself; exact hself
    simp only
    rw [this, if_pos hp]
  · have hp : showP q.num q.den = (showZ q.num ++ (⟨#[47]⟩ : ByteArray)) ++ showS q.den := by unfold showP; rw [if_neg hd]
    have hdat : (showP q.num q.den).data.toList = (showZ q.num).data.toList ++ 47 :: (showS q.den).data.toList := by
      rw [hp]; simp
    have hs : sl (showP q.num q.den) = ((showZ q.num).size : Int) := by
      show Lib.indexByte _ 47 = _
      rw [hdat, idx_at _ _ (no47 _ (z47 _)), Array.length_toList]; rfl
    have hl : (showZ q.num).data.toList.length = (showZ q.num).size := by rw [Array.length_toList]; rfl
    have e1 : (showP q.num q.den).extract 0 (showZ q.num).size = showZ q.num := by
      apply ByteArray.ext; apply Array.ext'
      rw [ext_take, hdat, List.take_append_of_le_length (by omega), List.take_of_length_le (by omega)]
    have e2 : (showP q.num q.den).extract ((showZ q.num).size + 1) (showP q.num q.den).size = showS q.den := by
      apply ByteArray.ext; apply Array.ext'
      rw [ext_drop, hdat, ← hl, List.drop_append, List.drop_of_length_le (by omega)]
      simp
    have hr := parseR_decS 65536 q.den (dec_lt _ j h.den hj)
    have n1 : (((showZ q.num).size : Nat) : Int).toNat = (showZ q.num).size := by omega
    have n2 : (((showZ q.num).size : Nat) + 1 : Int).toNat = (showZ q.num).size + 1 := by omega
    rw [hs, if_pos (by omega), n1, n2, e1, e2, hz, if_pos rfl, bytesOf_showS, hr, if_pos rfl, valS_decS]
    simp only
    rw [hself, if_pos rfl]
end Go.Proofs.Ythkiklpcglogpaa.ZRat
namespace Go.Proofs.Ythkiklpcglogpaa.ZRat
open Go.RowKit Go.Proofs.Ythkiklpcglogpaa.Wd
open Go Go.Proofs.Ythkiklpcglogpaa.Ab Go.Proofs Go.Proofs.Ythkiklpcglogpaa.Num Go.Proofs.Ythkiklpcglogpaa.ZRatP
set_option linter.unusedSimpArgs false
set_option linter.unusedVariables false
set_option maxHeartbeats 8000000
set_option maxRecDepth 100000
theorem bt_some (t : ByteArray) (i : Nat) (h : i < t.size) : t.data.toList[i]? = some (bc t i) := by
  have := get_bc t i (by omega) (by omega)
  rw [Int.toNat_natCast] at this
  rw [Array.getElem?_toList]; exact this
theorem bc_47 (t : ByteArray) (i : Nat) : bt t i = 47 ↔ bc t i = 47 := by
  rw [← bc_bt]
  constructor
  · intro h; exact UInt8.toNat_inj.1 (by rw [show (47 : UInt8).toNat = 47 from rfl]; omega)
  · intro h; rw [h]; rfl
theorem before (t : ByteArray) (at' i : Nat) (ha : (at' : Int) = if 0 ≤ sl t then sl t else (t.size : Int)) (hi : i < at') : i < t.size ∧ ¬ bt t i = 47 := by
  have h1 := sl_lt t
  by_cases h : 0 ≤ sl t
  · rw [if_pos h] at ha
    have hs : i < t.size := by omega
    refine ⟨hs, fun e => ?_⟩
    have := (Lib.indexByte_some (l := t.data.toList) (c := 47) (o := at') ha.symm).2 i hi
    exact this (by rw [bt_some t i hs, (bc_47 t i).1 e])
  · rw [if_neg h] at ha
    have hs : i < t.size := by omega
    refine ⟨hs, fun e => ?_⟩
    have h2 := sl_ge t
    exact Lib.indexByte_none (l := t.data.toList) (c := 47) (show sl t = -1 by omega) i (by rw [bt_some t i hs, (bc_47 t i).1 e])
theorem at_bt (t : ByteArray) (at' : Nat) (h : sl t = (at' : Int)) : at' < t.size ∧ bt t at' = 47 := by
  have h1 := sl_lt t
  have hs : at' < t.size := by omega
  have := (Lib.indexByte_some (l := t.data.toList) (c := 47) (o := at') h).1
  rw [bt_some t at' hs] at this
  exact ⟨hs, (bc_47 t at').2 (Option.some.inj this)⟩
theorem extr_all (t : ByteArray) : t.extract 0 t.size = t := by
  apply ByteArray.ext; apply Array.ext'
  rw [ext_take, List.take_of_length_le]
  rw [Array.length_toList]; exact Nat.le_refl _
theorem rone {L : Nat} (h : 1 ≤ L) : rintC L (.int .i64 1) (.row 1 [.int .i64 1]) = some 1 := by
  have e : NB 65536 1 = [1] := by rw [NB_pos (by omega) (by omega)]; simp [NB_zero]
  have := rintC_can (L := L) (z := 1) (m := 1) (by rw [show (1 : Int).natAbs = 1 from rfl, e]; rfl) (by rw [show (1 : Int).natAbs = 1 from rfl, e]; exact h)
  rw [show (1 : Int).natAbs = 1 from rfl, e] at this
  exact this
theorem get_nat (t : ByteArray) (i : Nat) (h : i < t.size) : t.data[i]? = some (bc t i) := by
  have := get_bc t i (by omega) (by omega)
  rwa [Int.toNat_natCast] at this
noncomputable def E_RatParses : Env := mkS [(7, RParse5), (12, Whole1), (13, RParse), (14, FLong), (8, FShow), (10, FSame), (11, L5lives)] [(5, [0, 3, 4, 5])] []
theorem par_a (t : ByteArray) (hs : t.size ≤ 200) (at' : Nat) (ha : sl t = (at' : Int)) : (AEnds E_RatParses (finW Try.prog Try.f4.results) 0 (atLoop Try.f4 5) ⟨fr 99 [(0, .str t), (3, .ptr 0 0), (4, .int .i64 (parseQ t).2), (5, .int .i64 ((at' : Nat) : Int))], [.obj [.bool (decide ((parseQ t).1.num < 0)), natA (parseQ t).1.num.natAbs, natA (parseQ t).1.den]], [false]⟩ (.bool true)) := by
  obtain ⟨h1, h2⟩ := at_bt t at' ha
  have g1 := get_nat t at' h1
  have k1 : (at' : Int) < (t.size : Int) := by omega
  have k2 : (at' : Int) ≤ (t.size : Int) := by omega
  have k3 : wrap64 ((at' : Int) + 1) = ((at' : Int) + 1) := by unfold wrap64; omega
  have k4 : (at' : Int) + 1 ≤ (t.size : Int) := by omega
  have k5 : (0 : Int) ≤ (at' : Int) + 1 := by omega
  have y1 : (t.extract 0 at').size ≤ t.size := by simp; omega
  have y2 : (t.extract (at' + 1) t.size).size ≤ t.size := by simp
  have y3 : (t.extract 0 at').size ≤ 1000000 := by omega
  have y4 : (t.extract (at' + 1) t.size).size ≤ 1000000000 := by omega
  have n1 : ((at' : Nat) + 1 : Int).toNat = at' + 1 := by omega
  unfold parseQ
  rw [ha, if_pos (by omega), n1, Int.toNat_natCast]
  simp only [Try.f4, atLoop, seek, firstR, reduceIte, Option.getD_some, Nat.reduceEqDiff]
  generalize hA : t.extract 0 at' = A at *
  generalize hB : t.extract (at' + 1) t.size = B at *
  by_cases he : (parseZ A).2 = 0
  · rw [if_pos he]
    rcases parseR_cases 65536 65536 (Wd.bytesOf B) with ⟨r1, r2, r3⟩ | ⟨r1, r2⟩
    · rw [if_pos r1]
      by_cases hv : valS (Wd.bytesOf B) = 0
      · rw [hv, Rat.mkRat_zero]
        unfold fin
        by_cases hw : showP (0 : Rat).num (0 : Rat).den = t
        · rw [if_pos hw]
          have hw : showP 0 1 = t := hw
          simp (maxSteps := 4000000) (disch := (first | with_reducible rfl | assumption | with_reducible exact WB_NB _ _ | (with_reducible refine nb_le ?_; omega) | (with_reducible refine nb16_le ?_; omega) | omega | (simp only [List.length_append, List.length_map, List.length_cons, List.length_nil, List.length_set, List.length_replicate, List.length_take, List.size_toArray]; omega))) [E_RatParses, ha, g1, h2, k1, k2, k3, k4, k5, n1, hA, hB, he, r2, hv, hw, y3, y4, beqL, -Int.sign_mul, -Int.sign_neg, -Int.natAbs_neg]
        · rw [if_neg hw]
          have hw : ¬ showP 0 1 = t := hw
          simp (maxSteps := 4000000) (disch := (first | with_reducible rfl | assumption | with_reducible exact WB_NB _ _ | (with_reducible refine nb_le ?_; omega) | (with_reducible refine nb16_le ?_; omega) | omega | (simp only [List.length_append, List.length_map, List.length_cons, List.length_nil, List.length_set, List.length_replicate, List.length_take, List.size_toArray]; omega))) [E_RatParses, ha, g1, h2, k1, k2, k3, k4, k5, n1, hA, hB, he, r2, hv, hw, y3, y4, beqL, -Int.sign_mul, -Int.sign_neg, -Int.natAbs_neg]
      · have hp : 0 < valS (Wd.bytesOf B) := by omega
        have hnb : 0 < (NB 65536 (valS (Wd.bytesOf B))).length := NB_lpos _ hp
        haveI hQ : SzQ (mkRat (parseZ A).1 (valS (Wd.bytesOf B))) _ := inferInstance
        have hvi : ¬ ((valS (Wd.bytesOf B) : Nat) : Int) = 0 := by omega
        generalize hq : mkRat (parseZ A).1 (valS (Wd.bytesOf B)) = q at *
        unfold fin
        by_cases hw : showP q.num q.den = t
        · rw [if_pos hw]
          simp (maxSteps := 4000000) (disch := (first | with_reducible rfl | assumption | with_reducible exact WB_NB _ _ | (with_reducible refine nb_le ?_; omega) | (with_reducible refine nb16_le ?_; omega) | omega | (simp only [List.length_append, List.length_map, List.length_cons, List.length_nil, List.length_set, List.length_replicate, List.length_take, List.size_toArray]; omega))) [E_RatParses, ha, g1, h2, k1, k2, k3, k4, k5, n1, hA, hB, he, r2, hv, hp, hnb, hvi, hq, hw, y3, y4, beqL, -Int.sign_mul, -Int.sign_neg, -Int.natAbs_neg]
        · rw [if_neg hw]
          simp (maxSteps := 4000000) (disch := (first | with_reducible rfl | assumption | with_reducible exact WB_NB _ _ | (with_reducible refine nb_le ?_; omega) | (with_reducible refine nb16_le ?_; omega) | omega | (simp only [List.length_append, List.length_map, List.length_cons, List.length_nil, List.length_set, List.length_replicate, List.length_take, List.size_toArray]; omega))) [E_RatParses, ha, g1, h2, k1, k2, k3, k4, k5, n1, hA, hB, he, r2, hv, hp, hnb, hvi, hq, hw, y3, y4, beqL, -Int.sign_mul, -Int.sign_neg, -Int.natAbs_neg]
    · rw [if_neg r1]
      generalize (parseR 65536 (Wd.bytesOf B)).2 = e at *
      simp (maxSteps := 4000000) (disch := (first | with_reducible rfl | assumption | with_reducible exact WB_NB _ _ | (with_reducible refine nb_le ?_; omega) | (with_reducible refine nb16_le ?_; omega) | omega | (simp only [List.length_append, List.length_map, List.length_cons, List.length_nil, List.length_set, List.length_replicate, List.length_take, List.size_toArray]; omega))) [E_RatParses, ha, g1, h2, k1, k2, k3, k4, k5, n1, hA, hB, he, r1, r2, y3, y4, beqL, -Int.sign_mul, -Int.sign_neg, -Int.natAbs_neg]
  · rw [if_neg he]
    simp (maxSteps := 4000000) (disch := (first | with_reducible rfl | assumption | with_reducible exact WB_NB _ _ | (with_reducible refine nb_le ?_; omega) | (with_reducible refine nb16_le ?_; omega) | omega | (simp only [List.length_append, List.length_map, List.length_cons, List.length_nil, List.length_set, List.length_replicate, List.length_take, List.size_toArray]; omega))) [E_RatParses, ha, g1, h2, k1, k2, k3, k4, k5, n1, hA, hB, he, y3, y4, beqL, -Int.sign_mul, -Int.sign_neg, -Int.natAbs_neg]
theorem par_b (t : ByteArray) (hs : t.size ≤ 200) (ha : ¬ 0 ≤ sl t) : (AEnds E_RatParses (finW Try.prog Try.f4.results) 0 (atLoop Try.f4 5) ⟨fr 99 [(0, .str t), (3, .ptr 0 0), (4, .int .i64 (parseQ t).2), (5, .int .i64 ((t.size : Nat) : Int))], [.obj [.bool (decide ((parseQ t).1.num < 0)), natA (parseQ t).1.num.natAbs, natA (parseQ t).1.den]], [false]⟩ (.bool true)) := by
  have y3 : t.size ≤ 1000000 := by omega
  have hx := extr_all t
  unfold parseQ
  rw [if_neg ha]
  simp only [Try.f4, atLoop, seek, firstR, reduceIte, Option.getD_some, Nat.reduceEqDiff]
  by_cases he : (parseZ t).2 = 0
  · rw [if_pos he]
    haveI hQ : SzQ (mkRat (parseZ t).1 1) _ := inferInstance
    generalize hq : mkRat (parseZ t).1 1 = q at *
    unfold fin
    by_cases hw : showP q.num q.den = t
    · rw [if_pos hw]
      simp (maxSteps := 4000000) (disch := (first | with_reducible rfl | assumption | with_reducible exact WB_NB _ _ | (with_reducible refine nb_le ?_; omega) | (with_reducible refine nb16_le ?_; omega) | omega | (simp only [List.length_append, List.length_map, List.length_cons, List.length_nil, List.length_set, List.length_replicate, List.length_take, List.size_toArray]; omega))) [E_RatParses, hx, rone, he, hq, hw, y3, beqL, -Int.sign_mul, -Int.sign_neg, -Int.natAbs_neg]
    · rw [if_neg hw]
      simp (maxSteps := 4000000) (disch := (first | with_reducible rfl | assumption | with_reducible exact WB_NB _ _ | (with_reducible refine nb_le ?_; omega) | (with_reducible refine nb16_le ?_; omega) | omega | (simp only [List.length_append, List.length_map, List.length_cons, List.length_nil, List.length_set, List.length_replicate, List.length_take, List.size_toArray]; omega))) [E_RatParses, hx, rone, he, hq, hw, y3, beqL, -Int.sign_mul, -Int.sign_neg, -Int.natAbs_neg]
  · rw [if_neg he]
    simp (maxSteps := 4000000) (disch := (first | with_reducible rfl | assumption | with_reducible exact WB_NB _ _ | (with_reducible refine nb_le ?_; omega) | (with_reducible refine nb16_le ?_; omega) | omega | (simp only [List.length_append, List.length_map, List.length_cons, List.length_nil, List.length_set, List.length_replicate, List.length_take, List.size_toArray]; omega))) [E_RatParses, hx, he, y3, beqL, -Int.sign_mul, -Int.sign_neg, -Int.natAbs_neg]
theorem par_ls (t : ByteArray) (hs : t.size ≤ 200) (at' : Nat) (ha : (at' : Int) = if 0 ≤ sl t then sl t else (t.size : Int)) : ∀ (d i : Nat), at' = i + d → (AEnds E_RatParses (finW Try.prog Try.f4.results) 0 (atLoop Try.f4 5) ⟨fr 99 [(0, .str t), (3, .ptr 0 0), (4, .int .i64 (parseQ t).2), (5, .int .i64 ((i : Nat) : Int))], [.obj [.bool (decide ((parseQ t).1.num < 0)), natA (parseQ t).1.num.natAbs, natA (parseQ t).1.den]], [false]⟩ (.bool true))
  | 0, i, h => by
    obtain rfl : at' = i := h
    by_cases hc : 0 ≤ sl t
    · rw [if_pos hc] at ha; exact par_a t hs at' ha.symm
    · rw [if_neg hc] at ha
      obtain rfl : at' = t.size := by omega
      exact par_b t hs hc
  | d + 1, i, h => by
    obtain ⟨h1, h2⟩ := before t at' i ha (by omega)
    have g1 := get_nat t i h1
    have ih := par_ls t hs at' ha d (i + 1) (by omega)
    have k1 : (i : Int) < (t.size : Int) := by omega
    have k3 : wrap64 ((i : Int) + 1) = ((i : Int) + 1) := by unfold wrap64; omega
    simp only [Try.f4, atLoop, seek, firstR, reduceIte, Option.getD_some, Nat.reduceEqDiff] at ih ⊢
    simp (maxSteps := 4000000) (disch := (first | with_reducible rfl | assumption | with_reducible exact WB_NB _ _ | (with_reducible refine nb_le ?_; omega) | (with_reducible refine nb16_le ?_; omega) | omega | (simp only [List.length_append, List.length_map, List.length_cons, List.length_nil, List.length_set, List.length_replicate, List.length_take, List.size_toArray]; omega))) [E_RatParses, h1, g1, h2, k1, k3, -Int.sign_mul, -Int.sign_neg, -Int.natAbs_neg]
    refine AEnds.againS ih ?_
    simp only [E_RatParses, firstR, mkS_keep, keepT, List.find?, Nat.reduceBEq, Option.map_some, Option.getD_some]
    simp (maxSteps := 4000000) (disch := (first | with_reducible rfl | assumption | with_reducible exact WB_NB _ _ | (with_reducible refine nb_le ?_; omega) | (with_reducible refine nb16_le ?_; omega) | omega | (simp only [List.length_append, List.length_map, List.length_cons, List.length_nil, List.length_set, List.length_replicate, List.length_take, List.size_toArray]; omega))) [E_RatParses, h1, g1, h2, k1, k3, -Int.sign_mul, -Int.sign_neg, -Int.natAbs_neg]
theorem run_RatParses (a0 : ByteArray) (c0 : a0.size ≤ maxLen) : AEnds E_RatParses (finW Try.prog Try.f4.results) 0 [.code (Try.f4.body.getD .skip)] (startA Try.f4 [.str a0] [] []) (.bool true) := by
  have goal : ∀ t : ByteArray, t.size ≤ 200 → (AEnds E_RatParses (finW Try.prog Try.f4.results) 0 (atLoop Try.f4 5) ⟨fr 99 [(0, .str t), (3, .ptr 0 0), (4, .int .i64 (parseQ t).2), (5, .int .i64 ((0 : Nat) : Int))], [.obj [.bool (decide ((parseQ t).1.num < 0)), natA (parseQ t).1.num.natAbs, natA (parseQ t).1.den]], [false]⟩ (.bool true)) := fun t hs => by
    have h1 := sl_lt t
    exact par_ls t hs (if 0 ≤ sl t then (sl t).toNat else t.size) (by split <;> omega) _ 0 (by rw [Nat.zero_add])
  simp only [Try.f4, Option.getD_some, startA]
  by_cases hc : 200 < (a0.size : Int)
  · have y : (200 : Int) ≤ (a0.size : Int) := by omega
    have hs : (a0.extract 0 200).size ≤ 200 := by simp; omega
    have g := goal _ hs
    have y2 : (a0.extract 0 200).size ≤ 1000000 := by omega
    generalize hA : a0.extract 0 200 = A at *
    simp (maxSteps := 4000000) (disch := (first | with_reducible rfl | assumption | with_reducible exact WB_NB _ _ | (with_reducible refine nb_le ?_; omega) | (with_reducible refine nb16_le ?_; omega) | omega | (simp only [List.length_append, List.length_map, List.length_cons, List.length_nil, List.length_set, List.length_replicate, List.length_take, List.size_toArray]; omega))) [E_RatParses, hc, y, hA, y2, -Int.sign_mul, -Int.sign_neg, -Int.natAbs_neg]
    refine AEnds.loopS g ?_
    simp only [E_RatParses, firstR, mkS_keep, keepT, List.find?, Nat.reduceBEq, Option.map_some, Option.getD_some]
    simp (maxSteps := 4000000) (disch := (first | with_reducible rfl | assumption | with_reducible exact WB_NB _ _ | (with_reducible refine nb_le ?_; omega) | (with_reducible refine nb16_le ?_; omega) | omega | (simp only [List.length_append, List.length_map, List.length_cons, List.length_nil, List.length_set, List.length_replicate, List.length_take, List.size_toArray]; omega))) [E_RatParses, hc, y, hA, y2, -Int.sign_mul, -Int.sign_neg, -Int.natAbs_neg]
  · have hs : a0.size ≤ 200 := by omega
    have g := goal _ hs
    have y2 : a0.size ≤ 1000000 := by omega
    simp (maxSteps := 4000000) (disch := (first | with_reducible rfl | assumption | with_reducible exact WB_NB _ _ | (with_reducible refine nb_le ?_; omega) | (with_reducible refine nb16_le ?_; omega) | omega | (simp only [List.length_append, List.length_map, List.length_cons, List.length_nil, List.length_set, List.length_replicate, List.length_take, List.size_toArray]; omega))) [E_RatParses, hc, y2, -Int.sign_mul, -Int.sign_neg, -Int.natAbs_neg]
    refine AEnds.loopS g ?_
    simp only [E_RatParses, firstR, mkS_keep, keepT, List.find?, Nat.reduceBEq, Option.map_some, Option.getD_some]
    simp (maxSteps := 4000000) (disch := (first | with_reducible rfl | assumption | with_reducible exact WB_NB _ _ | (with_reducible refine nb_le ?_; omega) | (with_reducible refine nb16_le ?_; omega) | omega | (simp only [List.length_append, List.length_map, List.length_cons, List.length_nil, List.length_set, List.length_replicate, List.length_take, List.size_toArray]; omega))) [E_RatParses, hc, y2, -Int.sign_mul, -Int.sign_neg, -Int.natAbs_neg]
theorem law_RatParses (a0 : ByteArray) (c0 : a0.size ≤ maxLen) : OkV Try.prog 4 [.str a0] (.bool true) :=
  okW_ends (mkS_ok (alls_cons sRParse5 (alls_cons sWhole1 (alls_cons sRParse (alls_cons sFLong (alls_cons sFShow (alls_cons sFSame (alls_cons sL5lives alls_nil)))))))) mixed Try.func4 rfl (by kernel_rfl : Fits Try.prog E_RatParses.ref E_RatParses.dep Try.f4 = true) (run_RatParses a0 c0)
end Go.Proofs.Ythkiklpcglogpaa.ZRat
