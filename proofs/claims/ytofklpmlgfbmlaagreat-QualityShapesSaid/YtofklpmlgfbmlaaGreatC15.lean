/- Walks by the abstract run: shapes. -/
import Derived.Test.YtofklpmlgfbmlaaGreatC10
import Derived.Test.YtofklpmlgfbmlaaGreatC11
import Derived.Test.YtofklpmlgfbmlaaGreatC14
import Derived.Test.YtofklpmlgfbmlaaGreatC20
import Derived.Test.YtofklpmlgfbmlaaGreatC8
set_option linter.unusedVariables false
set_option linter.unusedSimpArgs false
namespace Go.Proofs.YtofklpmlgfbmlaaGreat.ZRat
open Go.RowKit Go.Proofs.YtofklpmlgfbmlaaGreat.Wd
open Go Go.Proofs.YtofklpmlgfbmlaaGreat.Ab Go.Proofs Go.Proofs.YtofklpmlgfbmlaaGreat.Num Go.Proofs.YtofklpmlgfbmlaaGreat.ZRatP
set_option linter.unusedSimpArgs false
set_option linter.unusedVariables false
set_option maxHeartbeats 8000000
set_option maxRecDepth 100000
noncomputable def BLen64 : List AV → Option AV
  | [x0] => (unN .u64 x0).bind fun a0 => if a0 = 3 then some (.int .i64 2) else none
  | _ => none
noncomputable def E_BLen64 : Env := mkS [] [] []
theorem run_BLen64 (a0 : Int) (hc : a0 = 3) : AEnds E_BLen64 (finW Tryz.prog Tryz.f182.results) 0 [.code (Tryz.f182.body.getD .skip)] (startA Tryz.f182 [.int .u64 a0] [] []) (.int .i64 2) := by
  simp only [Tryz.f182, Option.getD_some, startA]
  subst hc
  simp (maxSteps := 4000000) (disch := (first | with_reducible rfl | assumption | with_reducible exact WB_NB _ _ | (with_reducible refine nb_le ?_; omega) | (with_reducible refine nb16_le ?_; omega) | omega | (simp only [List.length_append, List.length_map, List.length_cons, List.length_nil, List.length_set, List.length_replicate, List.length_take, List.size_toArray]; omega))) [E_BLen64]
theorem sBLen64 : GoodS (182, BLen64) := by
  intro xs r h
  simp only at h
  unfold BLen64 at h
  split at h
  · obtain ⟨a0, h0, h⟩ := Option.bind_eq_some_iff.1 h
    split at h
    · rename_i hc
      cases h
      obtain rfl := unN_eq h0
      exact .inl <| okW_ends (mkS_ok alls_nil) mixed Tryz.func182 rfl (by kernel_rfl : Fits Tryz.prog E_BLen64.ref E_BLen64.dep Tryz.f182 = true) (run_BLen64 _ hc)
    · cases h
  · cases h
attribute [simp] BLen64
noncomputable def BLen : List AV → Option AV
  | [x0] => (unN .u64 x0).bind fun a0 => if a0 = 3 then some (.int .i64 2) else none
  | _ => none
noncomputable def E_BLen : Env := mkS [(182, BLen64)] [] []
theorem run_BLen (a0 : Int) (hc : a0 = 3) : AEnds E_BLen (finW Tryz.prog Tryz.f160.results) 0 [.code (Tryz.f160.body.getD .skip)] (startA Tryz.f160 [.int .u64 a0] [] []) (.int .i64 2) := by
  simp only [Tryz.f160, Option.getD_some, startA]
  subst hc
  simp (maxSteps := 4000000) (disch := (first | with_reducible rfl | assumption | with_reducible exact WB_NB _ _ | (with_reducible refine nb_le ?_; omega) | (with_reducible refine nb16_le ?_; omega) | omega | (simp only [List.length_append, List.length_map, List.length_cons, List.length_nil, List.length_set, List.length_replicate, List.length_take, List.size_toArray]; omega))) [E_BLen]
theorem sBLen : GoodS (160, BLen) := by
  intro xs r h
  simp only at h
  unfold BLen at h
  split at h
  · obtain ⟨a0, h0, h⟩ := Option.bind_eq_some_iff.1 h
    split at h
    · rename_i hc
      cases h
      obtain rfl := unN_eq h0
      exact .inl <| okW_ends (mkS_ok (alls_cons sBLen64 alls_nil)) mixed Tryz.func160 rfl (by kernel_rfl : Fits Tryz.prog E_BLen.ref E_BLen.dep Tryz.f160 = true) (run_BLen _ hc)
    · cases h
  · cases h
attribute [simp] BLen
noncomputable def SPQ : List AV → List Blk → List Bool → Option (AV × List Blk × List Bool)
  | [.own 0 0 3 2, .int .i64 0, .int .i64 3, .int .i64 _, .fn 122], [.arr cs], [false] => (dec3 cs).map fun p => (.tup [], [.arr (cells3 (srt3 p.1 p.2.1 p.2.2).1 (srt3 p.1 p.2.1 p.2.2).2.1 (srt3 p.1 p.2.1 p.2.2).2.2), .dead], [false, false])
  | _, _, _ => none
noncomputable def E_SPQ : Env := mkR [] 173 SIS [(2, [0, 1, 2, 3, 4, 10, 11])] []
theorem run_SPQ (n : Int) (a b c : Int) (ha : bW a) (hb : bW b) (hc : bW c) : AEnds E_SPQ (finR Tryz.prog Tryz.f159.results) 1 [.code (Tryz.f159.body.getD .skip)] (startA Tryz.f159 [.own 0 0 3 2, .int .i64 0, .int .i64 3, .int .i64 n, .fn 122] [.arr (cells3 a b c)] [false]) (.tup [], [.arr (cells3 (srt3 a b c).1 (srt3 a b c).2.1 (srt3 a b c).2.2), .dead], [false, false]) := by
  simp only [Tryz.f159, Option.getD_some, startA]
  have hd := dec3_A ha hb hc
  clear ha hb hc
  simp only [cells3] at hd ⊢
  generalize a / 18446744073709551616 = ah at *
  generalize a % 18446744073709551616 = al at *
  generalize b / 18446744073709551616 = bh at *
  generalize b % 18446744073709551616 = bl at *
  generalize c / 18446744073709551616 = ch at *
  generalize c % 18446744073709551616 = cl at *
  simp (maxSteps := 4000000) (disch := (first | with_reducible rfl | assumption | with_reducible exact WB_NB _ _ | (with_reducible refine nb_le ?_; omega) | (with_reducible refine nb16_le ?_; omega) | omega | (simp only [List.length_append, List.length_map, List.length_cons, List.length_nil, List.length_set, List.length_replicate, List.length_take, List.size_toArray]; omega))) [E_SPQ, hd, cells3]
  refine .loop ?_
  simp only [E_SPQ, firstR, mkS_keep, mkR_keep, keepT, List.find?, Nat.reduceBEq, Option.map_some, Option.getD_some]
  simp (maxSteps := 4000000) (disch := (first | with_reducible rfl | assumption | with_reducible exact WB_NB _ _ | (with_reducible refine nb_le ?_; omega) | (with_reducible refine nb16_le ?_; omega) | omega | (simp only [List.length_append, List.length_map, List.length_cons, List.length_nil, List.length_set, List.length_replicate, List.length_take, List.size_toArray]; omega))) [E_SPQ, hd, cells3]
theorem goodSPQ : GoodR0 159 SPQ := by
  intro xs h z r h' z' hr
  unfold SPQ at hr
  split at hr
  · obtain ⟨⟨a, b, c⟩, hp, hq⟩ := Option.map_eq_some_iff.1 hr
    obtain ⟨rfl, ha, hb, hc⟩ := dec3_out hp
    simp only [Prod.mk.injEq] at hq
    obtain ⟨rfl, rfl, rfl⟩ := hq
    exact okR_ends (mkR_ok alls_nil goodSIS) mixed Tryz.func159 rfl (by kernel_rfl : Fits Tryz.prog E_SPQ.ref E_SPQ.dep Tryz.f159 = true) (run_SPQ _ a b c ha hb hc)
  · cases hr
attribute [simp] SPQ
noncomputable def SSF : List AV → List Blk → List Bool → Option (AV × List Blk × List Bool)
  | [.own 0 0 3 2, .fn 122], [.arr cs], [false] => (dec3 cs).map fun p => (.tup [], [.arr (cells3 (srt3 p.1 p.2.1 p.2.2).1 (srt3 p.1 p.2.1 p.2.2).2.1 (srt3 p.1 p.2.1 p.2.2).2.2), .dead], [false, false])
  | _, _, _ => none
noncomputable def E_SSF : Env := mkR [(160, BLen)] 159 SPQ [] []
theorem run_SSF (a b c : Int) (ha : bW a) (hb : bW b) (hc : bW c) : AEnds E_SSF (finR Tryz.prog Tryz.f121.results) 1 [.code (Tryz.f121.body.getD .skip)] (startA Tryz.f121 [.own 0 0 3 2, .fn 122] [.arr (cells3 a b c)] [false]) (.tup [], [.arr (cells3 (srt3 a b c).1 (srt3 a b c).2.1 (srt3 a b c).2.2), .dead], [false, false]) := by
  simp only [Tryz.f121, Option.getD_some, startA]
  have hd := dec3_A ha hb hc
  clear ha hb hc
  simp only [cells3] at hd ⊢
  generalize a / 18446744073709551616 = ah at *
  generalize a % 18446744073709551616 = al at *
  generalize b / 18446744073709551616 = bh at *
  generalize b % 18446744073709551616 = bl at *
  generalize c / 18446744073709551616 = ch at *
  generalize c % 18446744073709551616 = cl at *
  have hu : IntKind.u64.wrap 3 = 3 := by decide +kernel
  simp (maxSteps := 4000000) (disch := (first | with_reducible rfl | assumption | with_reducible exact WB_NB _ _ | (with_reducible refine nb_le ?_; omega) | (with_reducible refine nb16_le ?_; omega) | omega | (simp only [List.length_append, List.length_map, List.length_cons, List.length_nil, List.length_set, List.length_replicate, List.length_take, List.size_toArray]; omega))) [E_SSF, hd, cells3, hu]
theorem goodSSF : GoodR0 121 SSF := by
  intro xs h z r h' z' hr
  unfold SSF at hr
  split at hr
  · obtain ⟨⟨a, b, c⟩, hp, hq⟩ := Option.map_eq_some_iff.1 hr
    obtain ⟨rfl, ha, hb, hc⟩ := dec3_out hp
    simp only [Prod.mk.injEq] at hq
    obtain ⟨rfl, rfl, rfl⟩ := hq
    exact okR_ends (mkR_ok (alls_cons sBLen alls_nil) goodSPQ) mixed Tryz.func121 rfl (by kernel_rfl : Fits Tryz.prog E_SSF.ref E_SSF.dep Tryz.f121 = true) (run_SSF a b c ha hb hc)
  · cases hr
attribute [simp] SSF
end Go.Proofs.YtofklpmlgfbmlaaGreat.ZRat
namespace Go.Proofs.YtofklpmlgfbmlaaGreat.ZRat
open Go.RowKit Go.Proofs.YtofklpmlgfbmlaaGreat.Wd
open Go Go.Proofs.YtofklpmlgfbmlaaGreat.Ab Go.Proofs Go.Proofs.YtofklpmlgfbmlaaGreat.Num Go.Proofs.YtofklpmlgfbmlaaGreat.ZRatP
set_option linter.unusedSimpArgs false
set_option linter.unusedVariables false
set_option maxHeartbeats 8000000
set_option maxRecDepth 100000
/-- Whether three points can be, and turn left. -/
def turnC (ax ay bx bY cx cy : Int) : Prop := (canP ax ay ∧ canP bx bY ∧ canP cx cy) ∧ 0 < crossZ ax ay bx bY cx cy
instance (ax ay bx bY cx cy : Int) : Decidable (turnC ax ay bx bY cx cy) := by unfold turnC; infer_instance
def sidesZ (ax ay bx bY cx cy : Int) : Int × Int × Int := srt3 (distZ ax ay bx bY) (distZ bx bY cx cy) (distZ cx cy ax ay)
def shapeA (a b c r n : Int) : AV := .agg [.int .i64 (a / 18446744073709551616), .int .u64 (a % 18446744073709551616), .int .i64 (b / 18446744073709551616), .int .u64 (b % 18446744073709551616), .int .i64 (c / 18446744073709551616), .int .u64 (c % 18446744073709551616), .int .i64 (r / 18446744073709551616), .int .u64 (r % 18446744073709551616), .int .i64 n]
attribute [simp] shapeA
def angZ (s : Int × Int × Int) : Int := (s.2.2 - (s.1 + s.2.1)).sign
theorem srt3_all {Q : Int → Prop} {a b c : Int} (ha : Q a) (hb : Q b) (hc : Q c) : Q (srt3 a b c).1 ∧ Q (srt3 a b c).2.1 ∧ Q (srt3 a b c).2.2 := by
  unfold srt3
  split <;> (split <;> (try split)) <;> simp [*]
noncomputable def QShape : List AV → Option AV
  | [x0, x1, x2] => (ptD x0).bind fun a0 => (ptD x1).bind fun a1 => (ptD x2).bind fun a2 => some (if turnC a0.1 a0.2 a1.1 a1.2 a2.1 a2.2 then .tup [shapeA (sidesZ a0.1 a0.2 a1.1 a1.2 a2.1 a2.2).1 (sidesZ a0.1 a0.2 a1.1 a1.2 a2.1 a2.2).2.1 (sidesZ a0.1 a0.2 a1.1 a1.2 a2.1 a2.2).2.2 (crossZ a0.1 a0.2 a1.1 a1.2 a2.1 a2.2) (angZ (sidesZ a0.1 a0.2 a1.1 a1.2 a2.1 a2.2)), .bool true] else .tup [shapeA 0 0 0 0 0, .bool false])
  | _ => none
noncomputable def E_QShape : Env := mkR [(90, POrient), (59, PDist2), (57, PArea2), (125, WdAdd), (124, WdSub), (123, WdSign)] 121 SSF [] []
theorem run_QShape (x0 y0 : Int) (x1 y1 : Int) (x2 y2 : Int) : AEnds E_QShape (finW Tryz.prog Tryz.f73.results) 0 [.code (Tryz.f73.body.getD .skip)] (startA Tryz.f73 [.agg [.int .i64 x0, .int .i64 y0], .agg [.int .i64 x1, .int .i64 y1], .agg [.int .i64 x2, .int .i64 y2]] [] []) (if turnC x0 y0 x1 y1 x2 y2 then .tup [shapeA (sidesZ x0 y0 x1 y1 x2 y2).1 (sidesZ x0 y0 x1 y1 x2 y2).2.1 (sidesZ x0 y0 x1 y1 x2 y2).2.2 (crossZ x0 y0 x1 y1 x2 y2) (angZ (sidesZ x0 y0 x1 y1 x2 y2)), .bool true] else .tup [shapeA 0 0 0 0 0, .bool false]) := by
  simp only [Tryz.f73, Option.getD_some, startA]
  by_cases ht : turnC x0 y0 x1 y1 x2 y2
  · rw [if_pos ht]
    have k0 := ht.1.1
    have k1 := ht.1.2.1
    have k2 := ht.1.2.2
    have hs : (crossZ x0 y0 x1 y1 x2 y2).sign = 1 := Int.sign_eq_one_of_pos ht.2
    have i0 := k0
    have i1 := k1
    have i2 := k2
    unfold canP inP at i0 i1 i2
    have d01x : -2199023255552 ≤ x1 - x0 := by omega
    have d01x' : x1 - x0 ≤ 2199023255552 := by omega
    have d01y : -2199023255552 ≤ y1 - y0 := by omega
    have d01y' : y1 - y0 ≤ 2199023255552 := by omega
    have d02x : -2199023255552 ≤ x2 - x0 := by omega
    have d02x' : x2 - x0 ≤ 2199023255552 := by omega
    have d02y : -2199023255552 ≤ y2 - y0 := by omega
    have d02y' : y2 - y0 ≤ 2199023255552 := by omega
    have d12x : -2199023255552 ≤ x2 - x1 := by omega
    have d12x' : x2 - x1 ≤ 2199023255552 := by omega
    have d12y : -2199023255552 ≤ y2 - y1 := by omega
    have d12y' : y2 - y1 ≤ 2199023255552 := by omega
    have d20x : -2199023255552 ≤ x0 - x2 := by omega
    have d20x' : x0 - x2 ≤ 2199023255552 := by omega
    have d20y : -2199023255552 ≤ y0 - y2 := by omega
    have d20y' : y0 - y2 ≤ 2199023255552 := by omega
    have q01x := mulB (x := x1 - x0) (y := x1 - x0) (m := 2199023255552) (n := 2199023255552) ⟨d01x, d01x'⟩ ⟨d01x, d01x'⟩
    have q01y := mulB (x := y1 - y0) (y := y1 - y0) (m := 2199023255552) (n := 2199023255552) ⟨d01y, d01y'⟩ ⟨d01y, d01y'⟩
    have dz01 : -9671406556917033397649408 ≤ distZ x0 y0 x1 y1 ∧ distZ x0 y0 x1 y1 ≤ 9671406556917033397649408 := by unfold distZ; omega
    have w01 := wideD_A (distZ x0 y0 x1 y1) (by omega)
    haveI : SzI (distZ x0 y0 x1 y1) 3 := ⟨by omega⟩
    have q12x := mulB (x := x2 - x1) (y := x2 - x1) (m := 2199023255552) (n := 2199023255552) ⟨d12x, d12x'⟩ ⟨d12x, d12x'⟩
    have q12y := mulB (x := y2 - y1) (y := y2 - y1) (m := 2199023255552) (n := 2199023255552) ⟨d12y, d12y'⟩ ⟨d12y, d12y'⟩
    have dz12 : -9671406556917033397649408 ≤ distZ x1 y1 x2 y2 ∧ distZ x1 y1 x2 y2 ≤ 9671406556917033397649408 := by unfold distZ; omega
    have w12 := wideD_A (distZ x1 y1 x2 y2) (by omega)
    haveI : SzI (distZ x1 y1 x2 y2) 3 := ⟨by omega⟩
    have q20x := mulB (x := x0 - x2) (y := x0 - x2) (m := 2199023255552) (n := 2199023255552) ⟨d20x, d20x'⟩ ⟨d20x, d20x'⟩
    have q20y := mulB (x := y0 - y2) (y := y0 - y2) (m := 2199023255552) (n := 2199023255552) ⟨d20y, d20y'⟩ ⟨d20y, d20y'⟩
    have dz20 : -9671406556917033397649408 ≤ distZ x2 y2 x0 y0 ∧ distZ x2 y2 x0 y0 ≤ 9671406556917033397649408 := by unfold distZ; omega
    have w20 := wideD_A (distZ x2 y2 x0 y0) (by omega)
    haveI : SzI (distZ x2 y2 x0 y0) 3 := ⟨by omega⟩
    have qc1 := mulB (x := x1 - x0) (y := y2 - y0) (m := 2199023255552) (n := 2199023255552) ⟨d01x, d01x'⟩ ⟨d02y, d02y'⟩
    have qc2 := mulB (x := y1 - y0) (y := x2 - x0) (m := 2199023255552) (n := 2199023255552) ⟨d01y, d01y'⟩ ⟨d02x, d02x'⟩
    have cz : -9671406556917033397649408 ≤ crossZ x0 y0 x1 y1 x2 y2 ∧ crossZ x0 y0 x1 y1 x2 y2 ≤ 9671406556917033397649408 := by unfold crossZ; omega
    have wc := wideD_A (crossZ x0 y0 x1 y1 x2 y2) (by omega)
    haveI : SzI (crossZ x0 y0 x1 y1 x2 y2) 3 := ⟨by omega⟩
    clear i0 i1 i2 q01x q01y q12x q12y q20x q20y qc1 qc2
    unfold sidesZ angZ
    generalize hp : distZ x0 y0 x1 y1 = p at *
    generalize hq : distZ x1 y1 x2 y2 = q at *
    generalize hr : distZ x2 y2 x0 y0 = r at *
    generalize hcr : crossZ x0 y0 x1 y1 x2 y2 = cr at *
    have hd := dec3_A (a := p) (b := q) (c := r) ⟨by omega, by omega⟩ ⟨by omega, by omega⟩ ⟨by omega, by omega⟩
    obtain ⟨s0b, s1b, s2b⟩ := srt3_all (Q := fun z => -9671406556917033397649408 ≤ z ∧ z ≤ 9671406556917033397649408) (a := p) (b := q) (c := r) dz01 dz12 dz20
    generalize hs0 : (srt3 p q r).1 = s0 at *
    generalize hs1 : (srt3 p q r).2.1 = s1 at *
    generalize hs2 : (srt3 p q r).2.2 = s2 at *
    have ws0 := wideD_A s0 (by omega)
    have ws1 := wideD_A s1 (by omega)
    have ws2 := wideD_A s2 (by omega)
    have wsum := wideD_A (s0 + s1) (by omega)
    have wdif := wideD_A (s2 - (s0 + s1)) (by omega)
    have bs1 : -170141183460469231731687303715884105728 ≤ s0 + s1 ∧ s0 + s1 < 170141183460469231731687303715884105728 := by omega
    have bs2 : -170141183460469231731687303715884105728 ≤ s2 - (s0 + s1) ∧ s2 - (s0 + s1) < 170141183460469231731687303715884105728 := by omega
    have F := Aside0.mk (And.intro hd (And.intro w01 (And.intro w12 (And.intro w20 (And.intro wc (And.intro ws0 (And.intro ws1 (And.intro ws2 (And.intro wsum (And.intro wdif (And.intro bs1 bs2)))))))))))
    clear hd w01 w12 w20 wc ws0 ws1 ws2 wsum wdif bs1 bs2 dz01 dz12 dz20 cz s0b s1b s2b
    simp only [cells3] at F
    simp (maxSteps := 4000000) (disch := (first | with_reducible rfl | assumption | with_reducible exact WB_NB _ _ | (with_reducible refine nb_le ?_; omega) | (with_reducible refine nb16_le ?_; omega) | omega | (simp only [List.length_append, List.length_map, List.length_cons, List.length_nil, List.length_set, List.length_replicate, List.length_take, List.size_toArray]; omega))) [E_QShape, F.out, hp, hq, hr, hcr, hs0, hs1, hs2, hs, k0, k1, k2, cells3, wideA]
  · rw [if_neg ht]
    by_cases hk : canP x0 y0 ∧ canP x1 y1 ∧ canP x2 y2
    · have hs : ¬ (crossZ x0 y0 x1 y1 x2 y2).sign = 1 := fun h => ht ⟨hk, Int.sign_eq_one_iff_pos.1 h⟩
      simp (maxSteps := 4000000) (disch := (first | with_reducible rfl | assumption | with_reducible exact WB_NB _ _ | (with_reducible refine nb_le ?_; omega) | (with_reducible refine nb16_le ?_; omega) | omega | (simp only [List.length_append, List.length_map, List.length_cons, List.length_nil, List.length_set, List.length_replicate, List.length_take, List.size_toArray]; omega))) [E_QShape, hk, hs]
    · simp (maxSteps := 4000000) (disch := (first | with_reducible rfl | assumption | with_reducible exact WB_NB _ _ | (with_reducible refine nb_le ?_; omega) | (with_reducible refine nb16_le ?_; omega) | omega | (simp only [List.length_append, List.length_map, List.length_cons, List.length_nil, List.length_set, List.length_replicate, List.length_take, List.size_toArray]; omega))) [E_QShape, hk]
theorem sQShape : GoodS (73, QShape) := by
  intro xs r h
  simp only at h
  unfold QShape at h
  split at h
  · obtain ⟨a0, h0, h⟩ := Option.bind_eq_some_iff.1 h
    obtain ⟨a1, h1, h⟩ := Option.bind_eq_some_iff.1 h
    obtain ⟨a2, h2, h⟩ := Option.bind_eq_some_iff.1 h
    cases h
    (obtain ⟨x0, y0⟩ := a0); (obtain rfl := ptD_out h0)
    (obtain ⟨x1, y1⟩ := a1); (obtain rfl := ptD_out h1)
    (obtain ⟨x2, y2⟩ := a2); (obtain rfl := ptD_out h2)
    exact .inl <| okW_ends (mkR_ok (alls_cons sPOrient (alls_cons sPDist2 (alls_cons sPArea2 (alls_cons sWdAdd (alls_cons sWdSub (alls_cons sWdSign alls_nil)))))) goodSSF) mixed Tryz.func73 rfl (by kernel_rfl : Fits Tryz.prog E_QShape.ref E_QShape.dep Tryz.f73 = true) (run_QShape _ _ _ _ _ _)
  · cases h
attribute [simp] QShape
end Go.Proofs.YtofklpmlgfbmlaaGreat.ZRat
