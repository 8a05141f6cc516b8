-- printed by zprint.py, a program of this session's
import Derived.Test.YtmfmojldebhboaaZWhole0
import Derived.Test.YtmfmojldebhboaaZWholegLive4
import Derived.Test.YtmfmojldebhboaaZWholegShort4
import Derived.Test.YtmfmojldebhboaaZWholegWAdd
import Derived.Test.YtmfmojldebhboaaZWholegWCmp
import Derived.Test.YtmfmojldebhboaaZWholegWMul
import Derived.Test.YtmfmojldebhboaaZWholegWShow
namespace Go.Proofs.Ytmfmojldebhboaa.ZWhole
open Go.RowKit Go.Proofs.YtmfmojldebhboaaW.PrintWords Go.Proofs.YtmfmojldebhboaaW.PrintLast Go.Proofs.YtmfmojldebhboaaW.PrintMore
set_option linter.unusedVariables false
set_option linter.unusedSimpArgs false

/-! ### zelligelaw04_WholeRings: function 6 -/
def zelligelaw04_WholeRings.f (k : Nat) (a0_0 : Bool) (l0_1 : List Int) (a1_0 : Bool) (l1_1 : List Int) (a2_0 : Bool) (l2_1 : List Int) : Option (Bool) := (zelligelaw04_Short.f a0_0 l0_1).bind fun bt904 => ((zelligelaw04_Short.f a1_0 l1_1).bind fun bt908 => ((zelligelaw04_Short.f a2_0 l2_1).bind fun bt912 => ((whole_Add.f k bt908.1 bt908.2 bt912.1 bt912.2).bind fun bt916 => ((whole_Mul.f k bt904.1 bt904.2 bt916.1 bt916.2).bind fun bt920 => ((whole_Mul.f k bt904.1 bt904.2 bt908.1 bt908.2).bind fun bt924 => ((whole_Mul.f k bt904.1 bt904.2 bt912.1 bt912.2).bind fun bt928 => ((whole_Add.f k bt924.1 bt924.2 bt928.1 bt928.2).bind fun bt932 => ((whole_Add.f k bt904.1 bt904.2 bt908.1 bt908.2).bind fun bt938 => ((whole_Sub.f k bt938.1 bt938.2 bt908.1 bt908.2).bind fun bt942 => ((whole_Cmp.f k bt942.1 bt942.2 bt904.1 bt904.2).bind fun t946 => (if t946 = 0 then ((whole_Cmp.f k bt920.1 bt920.2 bt932.1 bt932.2).bind fun t947 => (if t947 = 0 then ((whole_Show.f k bt920.1 bt920.2).bind fun t948 => ((whole_Show.f k bt932.1 bt932.2).bind fun t949 => (if t948.toList = t949.toList then ((zelligelaw04_lives.f k).bind fun t950 => (some t950)) else (some false)))) else (some false))) else (some false))))))))))))
theorem zelligelaw04_WholeRings.mono : ∀ a0 a1 a2 a3 a4 a5 k, LeO (zelligelaw04_WholeRings.f k a0 a1 a2 a3 a4 a5) (zelligelaw04_WholeRings.f (k + 1) a0 a1 a2 a3 a4 a5) := by
 intro a0 a1 a2 a3 a4 a5 k
 unfold zelligelaw04_WholeRings.f
 repeat' first
   | (with_reducible exact whole_Add.mono _ _ _ _ _)
   | (with_reducible exact whole_Cmp.mono _ _ _ _ _)
   | (with_reducible exact whole_Mul.mono _ _ _ _ _)
   | (with_reducible exact whole_Show.mono _ _ _)
   | (with_reducible exact whole_Sub.mono _ _ _ _ _)
   | (with_reducible exact zelligelaw04_lives.mono _)
   | (with_reducible exact LeO.refl _)
   | (with_reducible refine LeO.ite ?_ ?_)
   | (with_reducible refine LeO.bind ?_ (fun _ => ?_))
def zelligelaw04_WholeRings.T1 : Bool × List (List Nat × List Nat) := (true, [([], []), ([0], [0]), ([], []), ([2, 1], [2]), ([], []), ([4, 3], [4]), ([1, 5, 0, 1], [1]), ([3, 6, 0, 1, 2, 3, 6], [3]), ([5, 7, 0, 1, 2, 3, 4, 5, 6, 7], [5])])
def zelligelaw04_WholeRings.B1 : List Nat := [0, 1, 0, 7, 0, 31, 63, 127, 255]
theorem zelligelaw04_WholeRings.tab1 : rtab .any (opsOf Try.f6 1) = zelligelaw04_WholeRings.T1 := by kernel_rfl
theorem zelligelaw04_WholeRings.bits1 : waitsOk zelligelaw04_WholeRings.T1.2 zelligelaw04_WholeRings.B1 = true := by kernel_rfl
def zelligelaw04_WholeRings.T2 : Bool × List (List Nat × List Nat) := (true, [([], []), ([], []), ([], []), ([1, 2], [1, 2]), ([0, 3, 3], [0, 3]), ([], []), ([], []), ([5, 6, 4], [5, 6]), ([], []), ([], []), ([8, 9, 7], [8, 9]), ([7, 10, 10], [7, 10]), ([], []), ([], []), ([12, 4, 11, 0, 1, 2, 3, 4, 12, 13], [4, 12]), ([13, 11, 14, 0, 1, 2, 3, 4, 5, 6, 7, 8, 9, 10, 11, 12, 13, 14], [11, 13])])
def zelligelaw04_WholeRings.B2 : List Nat := [0, 0, 0, 6, 15, 0, 0, 127, 0, 0, 1023, 2047, 0, 0, 16383, 32767]
theorem zelligelaw04_WholeRings.tab2 : rtab .any (opsOf Try.f6 2) = zelligelaw04_WholeRings.T2 := by kernel_rfl
theorem zelligelaw04_WholeRings.bits2 : waitsOk zelligelaw04_WholeRings.T2.2 zelligelaw04_WholeRings.B2 = true := by kernel_rfl
def zelligelaw04_WholeRings.T3 : Bool × List (List Nat × List Nat) := (true, [([], []), ([], []), ([0, 1], [0, 1]), ([], []), ([2, 3, 2], [2, 3]), ([], []), ([4, 5, 4], [4, 5]), ([6], [6]), ([7, 6], [7]), ([8], [8]), ([8], [8]), ([9, 10, 8, 8], [8, 9, 10]), ([11, 8], [8, 11]), ([8, 12], [8, 12]), ([13, 11], [13]), ([14], [14]), ([15, 14, 14], [14, 15]), ([14], [14]), ([17, 16, 14], [14, 17]), ([16, 18, 14], [14, 16, 18]), ([14, 19], [14, 19]), ([20, 18], [20]), ([21, 21], [21]), ([21, 22], [21, 22]), ([23, 22, 0, 1, 2, 3, 4, 5, 6, 7, 8, 9, 10, 11, 12, 13, 14, 15, 16, 17, 18, 19, 20, 21, 22, 23], [23])])
def zelligelaw04_WholeRings.B3 : List Nat := [0, 0, 3, 0, 15, 0, 63, 127, 255, 511, 511, 2047, 4095, 8191, 16383, 32767, 65535, 32767, 262143, 524287, 1048575, 2097151, 4194303, 8388607, 16777215]
theorem zelligelaw04_WholeRings.tab3 : rtab .any (opsOf Try.f6 3) = zelligelaw04_WholeRings.T3 := by kernel_rfl
theorem zelligelaw04_WholeRings.bits3 : waitsOk zelligelaw04_WholeRings.T3.2 zelligelaw04_WholeRings.B3 = true := by kernel_rfl
set_option maxHeartbeats 8000000 in
set_option maxRecDepth 100000 in
theorem zelligelaw04_WholeRings.calls (k : Nat) (a0_0 : Bool) (A0_1 : Option Addr) (c0_1 : Nat) (l0_1 : List Int) (a1_0 : Bool) (A1_1 : Option Addr) (c1_1 : Nat) (l1_1 : List Int) (a2_0 : Bool) (A2_1 : Option Addr) (c2_1 : Nat) (l2_1 : List Int) (r : Bool) (w : World) (hr0_1 : Kd.C (Kd.int .u32) w A0_1 l0_1.length l0_1) (hc0_1 : l0_1.length ≤ c0_1) (hr1_1 : Kd.C (Kd.int .u32) w A1_1 l1_1.length l1_1) (hc1_1 : l1_1.length ≤ c1_1) (hr2_1 : Kd.C (Kd.int .u32) w A2_1 l2_1.length l2_1) (hc2_1 : l2_1.length ≤ c2_1) (h : zelligelaw04_WholeRings.f k a0_0 l0_1 a1_0 l1_1 a2_0 l2_1 = some r) (hT : Aside0 (r = true)) :
  Calls Try.prog 6 #[.agg #[.bool a0_0, .slice A0_1 l0_1.length c0_1], .agg #[.bool a1_0, .slice A1_1 l1_1.length c1_1], .agg #[.bool a2_0, .slice A2_1 l2_1.length c2_1]] w fun e w' => e = .returned (.bool r) ∧ Below w.heap.size w w' := by
 have hu25 := Try.underlying25
 have HR0_1 := am hr0_1
 have HC0_1 := am hc0_1
 clear hr0_1 hc0_1
 have HR1_1 := am hr1_1
 have HC1_1 := am hc1_1
 clear hr1_1 hc1_1
 have HR2_1 := am hr2_1
 have HC2_1 := am hc2_1
 clear hr2_1 hc2_1
 have HB := am (Below.refl w.heap.size w)
 have H : ((zelligelaw04_Short.f a0_0 l0_1).bind fun bt904 => ((zelligelaw04_Short.f a1_0 l1_1).bind fun bt908 => ((zelligelaw04_Short.f a2_0 l2_1).bind fun bt912 => ((whole_Add.f k bt908.1 bt908.2 bt912.1 bt912.2).bind fun bt916 => ((whole_Mul.f k bt904.1 bt904.2 bt916.1 bt916.2).bind fun bt920 => ((whole_Mul.f k bt904.1 bt904.2 bt908.1 bt908.2).bind fun bt924 => ((whole_Mul.f k bt904.1 bt904.2 bt912.1 bt912.2).bind fun bt928 => ((whole_Add.f k bt924.1 bt924.2 bt928.1 bt928.2).bind fun bt932 => ((whole_Add.f k bt904.1 bt904.2 bt908.1 bt908.2).bind fun bt938 => ((whole_Sub.f k bt938.1 bt938.2 bt908.1 bt908.2).bind fun bt942 => ((whole_Cmp.f k bt942.1 bt942.2 bt904.1 bt904.2).bind fun t946 => (if t946 = 0 then ((whole_Cmp.f k bt920.1 bt920.2 bt932.1 bt932.2).bind fun t947 => (if t947 = 0 then ((whole_Show.f k bt920.1 bt920.2).bind fun t948 => ((whole_Show.f k bt932.1 bt932.2).bind fun t949 => (if t948.toList = t949.toList then ((zelligelaw04_lives.f k).bind fun t950 => (some t950)) else (some false)))) else (some false))) else (some false))))))))))))) = some r := h
 clear h
 obtain ⟨⟨t904, t905⟩, A4, H⟩ := bindE H
 replace H : ((zelligelaw04_Short.f a1_0 l1_1).bind fun bt908 => ((zelligelaw04_Short.f a2_0 l2_1).bind fun bt912 => ((whole_Add.f k bt908.1 bt908.2 bt912.1 bt912.2).bind fun bt916 => ((whole_Mul.f k t904 t905 bt916.1 bt916.2).bind fun bt920 => ((whole_Mul.f k t904 t905 bt908.1 bt908.2).bind fun bt924 => ((whole_Mul.f k t904 t905 bt912.1 bt912.2).bind fun bt928 => ((whole_Add.f k bt924.1 bt924.2 bt928.1 bt928.2).bind fun bt932 => ((whole_Add.f k t904 t905 bt908.1 bt908.2).bind fun bt938 => ((whole_Sub.f k bt938.1 bt938.2 bt908.1 bt908.2).bind fun bt942 => ((whole_Cmp.f k bt942.1 bt942.2 t904 t905).bind fun t946 => (if t946 = 0 then ((whole_Cmp.f k bt920.1 bt920.2 bt932.1 bt932.2).bind fun t947 => (if t947 = 0 then ((whole_Show.f k bt920.1 bt920.2).bind fun t948 => ((whole_Show.f k bt932.1 bt932.2).bind fun t949 => (if t948.toList = t949.toList then ((zelligelaw04_lives.f k).bind fun t950 => (some t950)) else (some false)))) else (some false))) else (some false)))))))))))) = some r := H
 obtain ⟨⟨t908, t909⟩, A5, H⟩ := bindE H
 replace H : ((zelligelaw04_Short.f a2_0 l2_1).bind fun bt912 => ((whole_Add.f k t908 t909 bt912.1 bt912.2).bind fun bt916 => ((whole_Mul.f k t904 t905 bt916.1 bt916.2).bind fun bt920 => ((whole_Mul.f k t904 t905 t908 t909).bind fun bt924 => ((whole_Mul.f k t904 t905 bt912.1 bt912.2).bind fun bt928 => ((whole_Add.f k bt924.1 bt924.2 bt928.1 bt928.2).bind fun bt932 => ((whole_Add.f k t904 t905 t908 t909).bind fun bt938 => ((whole_Sub.f k bt938.1 bt938.2 t908 t909).bind fun bt942 => ((whole_Cmp.f k bt942.1 bt942.2 t904 t905).bind fun t946 => (if t946 = 0 then ((whole_Cmp.f k bt920.1 bt920.2 bt932.1 bt932.2).bind fun t947 => (if t947 = 0 then ((whole_Show.f k bt920.1 bt920.2).bind fun t948 => ((whole_Show.f k bt932.1 bt932.2).bind fun t949 => (if t948.toList = t949.toList then ((zelligelaw04_lives.f k).bind fun t950 => (some t950)) else (some false)))) else (some false))) else (some false))))))))))) = some r := H
 obtain ⟨⟨t912, t913⟩, A6, H⟩ := bindE H
 replace H : ((whole_Add.f k t908 t909 t912 t913).bind fun bt916 => ((whole_Mul.f k t904 t905 bt916.1 bt916.2).bind fun bt920 => ((whole_Mul.f k t904 t905 t908 t909).bind fun bt924 => ((whole_Mul.f k t904 t905 t912 t913).bind fun bt928 => ((whole_Add.f k bt924.1 bt924.2 bt928.1 bt928.2).bind fun bt932 => ((whole_Add.f k t904 t905 t908 t909).bind fun bt938 => ((whole_Sub.f k bt938.1 bt938.2 t908 t909).bind fun bt942 => ((whole_Cmp.f k bt942.1 bt942.2 t904 t905).bind fun t946 => (if t946 = 0 then ((whole_Cmp.f k bt920.1 bt920.2 bt932.1 bt932.2).bind fun t947 => (if t947 = 0 then ((whole_Show.f k bt920.1 bt920.2).bind fun t948 => ((whole_Show.f k bt932.1 bt932.2).bind fun t949 => (if t948.toList = t949.toList then ((zelligelaw04_lives.f k).bind fun t950 => (some t950)) else (some false)))) else (some false))) else (some false)))))))))) = some r := H
 obtain ⟨⟨t916, t917⟩, A7, H⟩ := bindE H
 replace H : ((whole_Mul.f k t904 t905 t916 t917).bind fun bt920 => ((whole_Mul.f k t904 t905 t908 t909).bind fun bt924 => ((whole_Mul.f k t904 t905 t912 t913).bind fun bt928 => ((whole_Add.f k bt924.1 bt924.2 bt928.1 bt928.2).bind fun bt932 => ((whole_Add.f k t904 t905 t908 t909).bind fun bt938 => ((whole_Sub.f k bt938.1 bt938.2 t908 t909).bind fun bt942 => ((whole_Cmp.f k bt942.1 bt942.2 t904 t905).bind fun t946 => (if t946 = 0 then ((whole_Cmp.f k bt920.1 bt920.2 bt932.1 bt932.2).bind fun t947 => (if t947 = 0 then ((whole_Show.f k bt920.1 bt920.2).bind fun t948 => ((whole_Show.f k bt932.1 bt932.2).bind fun t949 => (if t948.toList = t949.toList then ((zelligelaw04_lives.f k).bind fun t950 => (some t950)) else (some false)))) else (some false))) else (some false))))))))) = some r := H
 obtain ⟨⟨t920, t921⟩, A8, H⟩ := bindE H
 replace H : ((whole_Mul.f k t904 t905 t908 t909).bind fun bt924 => ((whole_Mul.f k t904 t905 t912 t913).bind fun bt928 => ((whole_Add.f k bt924.1 bt924.2 bt928.1 bt928.2).bind fun bt932 => ((whole_Add.f k t904 t905 t908 t909).bind fun bt938 => ((whole_Sub.f k bt938.1 bt938.2 t908 t909).bind fun bt942 => ((whole_Cmp.f k bt942.1 bt942.2 t904 t905).bind fun t946 => (if t946 = 0 then ((whole_Cmp.f k t920 t921 bt932.1 bt932.2).bind fun t947 => (if t947 = 0 then ((whole_Show.f k t920 t921).bind fun t948 => ((whole_Show.f k bt932.1 bt932.2).bind fun t949 => (if t948.toList = t949.toList then ((zelligelaw04_lives.f k).bind fun t950 => (some t950)) else (some false)))) else (some false))) else (some false)))))))) = some r := H
 obtain ⟨⟨t924, t925⟩, A9, H⟩ := bindE H
 replace H : ((whole_Mul.f k t904 t905 t912 t913).bind fun bt928 => ((whole_Add.f k t924 t925 bt928.1 bt928.2).bind fun bt932 => ((whole_Add.f k t904 t905 t908 t909).bind fun bt938 => ((whole_Sub.f k bt938.1 bt938.2 t908 t909).bind fun bt942 => ((whole_Cmp.f k bt942.1 bt942.2 t904 t905).bind fun t946 => (if t946 = 0 then ((whole_Cmp.f k t920 t921 bt932.1 bt932.2).bind fun t947 => (if t947 = 0 then ((whole_Show.f k t920 t921).bind fun t948 => ((whole_Show.f k bt932.1 bt932.2).bind fun t949 => (if t948.toList = t949.toList then ((zelligelaw04_lives.f k).bind fun t950 => (some t950)) else (some false)))) else (some false))) else (some false))))))) = some r := H
 obtain ⟨⟨t928, t929⟩, A10, H⟩ := bindE H
 replace H : ((whole_Add.f k t924 t925 t928 t929).bind fun bt932 => ((whole_Add.f k t904 t905 t908 t909).bind fun bt938 => ((whole_Sub.f k bt938.1 bt938.2 t908 t909).bind fun bt942 => ((whole_Cmp.f k bt942.1 bt942.2 t904 t905).bind fun t946 => (if t946 = 0 then ((whole_Cmp.f k t920 t921 bt932.1 bt932.2).bind fun t947 => (if t947 = 0 then ((whole_Show.f k t920 t921).bind fun t948 => ((whole_Show.f k bt932.1 bt932.2).bind fun t949 => (if t948.toList = t949.toList then ((zelligelaw04_lives.f k).bind fun t950 => (some t950)) else (some false)))) else (some false))) else (some false)))))) = some r := H
 obtain ⟨⟨t932, t933⟩, A11, H⟩ := bindE H
 replace H : ((whole_Add.f k t904 t905 t908 t909).bind fun bt938 => ((whole_Sub.f k bt938.1 bt938.2 t908 t909).bind fun bt942 => ((whole_Cmp.f k bt942.1 bt942.2 t904 t905).bind fun t946 => (if t946 = 0 then ((whole_Cmp.f k t920 t921 t932 t933).bind fun t947 => (if t947 = 0 then ((whole_Show.f k t920 t921).bind fun t948 => ((whole_Show.f k t932 t933).bind fun t949 => (if t948.toList = t949.toList then ((zelligelaw04_lives.f k).bind fun t950 => (some t950)) else (some false)))) else (some false))) else (some false))))) = some r := H
 obtain ⟨⟨t938, t939⟩, A12, H⟩ := bindE H
 replace H : ((whole_Sub.f k t938 t939 t908 t909).bind fun bt942 => ((whole_Cmp.f k bt942.1 bt942.2 t904 t905).bind fun t946 => (if t946 = 0 then ((whole_Cmp.f k t920 t921 t932 t933).bind fun t947 => (if t947 = 0 then ((whole_Show.f k t920 t921).bind fun t948 => ((whole_Show.f k t932 t933).bind fun t949 => (if t948.toList = t949.toList then ((zelligelaw04_lives.f k).bind fun t950 => (some t950)) else (some false)))) else (some false))) else (some false)))) = some r := H
 obtain ⟨⟨t942, t943⟩, A13, H⟩ := bindE H
 replace H : ((whole_Cmp.f k t942 t943 t904 t905).bind fun t946 => (if t946 = 0 then ((whole_Cmp.f k t920 t921 t932 t933).bind fun t947 => (if t947 = 0 then ((whole_Show.f k t920 t921).bind fun t948 => ((whole_Show.f k t932 t933).bind fun t949 => (if t948.toList = t949.toList then ((zelligelaw04_lives.f k).bind fun t950 => (some t950)) else (some false)))) else (some false))) else (some false))) = some r := H
 obtain ⟨t946, A14, H⟩ := bindE H
 by_cases c15 : t946 = 0
 ·
  rw [if_pos c15] at H
  have c15b0 : (t946 == 0) = true := beq_iff_eq.mpr c15
  have c15b1 : (t946 != 0) = false := bne_eq_false_iff_eq.mpr c15
  clear c15
  obtain ⟨t947, A16, H⟩ := bindE H
  by_cases c17 : t947 = 0
  ·
   rw [if_pos c17] at H
   have c17b0 : (t947 == 0) = true := beq_iff_eq.mpr c17
   have c17b1 : (t947 != 0) = false := bne_eq_false_iff_eq.mpr c17
   clear c17
   obtain ⟨t948, A18, H⟩ := bindE H
   obtain ⟨t949, A19, H⟩ := bindE H
   by_cases c20 : t948.toList = t949.toList
   ·
    rw [if_pos c20] at H
    have c20b0 : (t948.toList == t949.toList) = true := beq_iff_eq.mpr c20
    have c20b1 : (t948.toList != t949.toList) = false := bne_eq_false_iff_eq.mpr c20
    clear c20
    obtain ⟨t950, A21, H⟩ := bindE H
    obtain rfl := Option.some.inj H
    go_enter Try.func6, Try.ntmps6
    try go_wp2_with (first | ((with_reducible refine gate_dst (N := 3) rfl ?_); refine box_event ?hg (N := 3) ?hd (cs := #[.bool a0_0, .slice A0_1 l0_1.length c0_1]) (t := 25) ?hr ?_; (case hd => rfl); (case hg => rfl); (case hr => (go_simp; done)); intro gb901 hg w22 hbox hb; have BK901 := am hbox; have GW901 := am (gel hg HB.out); have GE901 := am (gel hg HB.out); replace HB := am (below_step HB.out hb); clear hb hbox hg) | ((with_reducible refine gate_dst (N := 4) rfl ?_); refine box_event ?hg (N := 4) ?hd (cs := #[.bool a1_0, .slice A1_1 l1_1.length c1_1]) (t := 25) ?hr ?_; (case hd => rfl); (case hg => rfl); (case hr => (go_simp; done)); intro gb902 hg w23 hbox hb; have BK902 := am hbox; have GW902 := am (gel hg HB.out); have GE902 := am (gel hg HB.out); replace HB := am (below_step HB.out hb); have NB901_902 := am (nel hg BK901.out); have NB902_901 := am (ner hg BK901.out); replace BK901 := am (blk_below BK901.out hb); clear hb hbox hg) | ((with_reducible refine gate_dst (N := 5) rfl ?_); refine box_event ?hg (N := 5) ?hd (cs := #[.bool a2_0, .slice A2_1 l2_1.length c2_1]) (t := 25) ?hr ?_; (case hd => rfl); (case hg => rfl); (case hr => (go_simp; done)); intro gb903 hg w24 hbox hb; have BK903 := am hbox; have GW903 := am (gel hg HB.out); have GE903 := am (gel hg HB.out); replace HB := am (below_step HB.out hb); have NB901_903 := am (nel hg BK901.out); have NB903_901 := am (ner hg BK901.out); replace BK901 := am (blk_below BK901.out hb); have NB902_903 := am (nel hg BK902.out); have NB903_902 := am (ner hg BK902.out); replace BK902 := am (blk_below BK902.out hb); clear hb hbox hg))
    replace BK901 := am (blk_drew BK901.out)
    replace BK902 := am (blk_drew BK902.out)
    replace BK903 := am (blk_drew BK903.out)
    replace HB := am (below_drew1 HB.out)
    refine start_ (n := 9) (S := fun w' => w'.cell? ⟨gb901, 0, none⟩ = some (.bool a0_0) ∧ w'.cell? ⟨gb901, 1, none⟩ = some (.slice A0_1 l0_1.length c0_1) ∧ w'.cell? ⟨gb902, 0, none⟩ = some (.bool a1_0) ∧ w'.cell? ⟨gb902, 1, none⟩ = some (.slice A1_1 l1_1.length c1_1) ∧ w'.cell? ⟨gb903, 0, none⟩ = some (.bool a2_0) ∧ w'.cell? ⟨gb903, 1, none⟩ = some (.slice A2_1 l2_1.length c2_1)) (ds := [6, 7, 8]) #[false, false, false, false, false, false, false, false, false] (by kernel_rfl) rfl rfl ⟨(blk_cell BK901.out 0).trans rfl, (blk_cell BK901.out 1).trans rfl, (blk_cell BK902.out 0).trans rfl, (blk_cell BK902.out 1).trans rfl, (blk_cell BK903.out 0).trans rfl, (blk_cell BK903.out 1).trans rfl⟩ (fun hHeld => ?_); refine with_tabW zelligelaw04_WholeRings.tab1 zelligelaw04_WholeRings.bits1 (fun HT_ HW_ => ?_)
    generalize w24.drew = w25 at BK901 BK902 BK903 HB hHeld ⊢
    refine take_ (i := 0) (N := some 9) (v := ?_) (a' := ?_) #[true, false, false, false, false, false, false, false, false] rfl rfl (take_ofW HT_.out HW_.out (by kernel_rfl)) (fun _ _ _ h => h) (Or.inl ⟨by rfl, ?_⟩) hHeld ?_ ?_
    rotate_left
    ·
     rintro w' ⟨s0, s1, s2, s3, s4, s5⟩
     go_simp
     with_reducible rfl
    rotate_left
    ·
     simp only [Act.put, sI_, s0_, s1_, i64_w, i32_w]
     rfl
    refine take_ (i := 2) (N := some 11) (v := ?_) (a' := ?_) #[true, false, true, false, false, false, false, false, false] rfl rfl (take_ofW HT_.out HW_.out (by kernel_rfl)) (fun _ _ _ h => h) (Or.inl ⟨by rfl, ?_⟩) hHeld ?_ ?_
    rotate_left
    ·
     rintro w' ⟨s0, s1, s2, s3, s4, s5⟩
     go_simp
     with_reducible rfl
    rotate_left
    ·
     simp only [Act.put, sI_, s0_, s1_, i64_w, i32_w]
     rfl
    refine take_ (i := 4) (N := some 13) (v := ?_) (a' := ?_) #[true, false, true, false, true, false, false, false, false] rfl rfl (take_ofW HT_.out HW_.out (by kernel_rfl)) (fun _ _ _ h => h) (Or.inl ⟨by rfl, ?_⟩) hHeld ?_ ?_
    rotate_left
    ·
     rintro w' ⟨s0, s1, s2, s3, s4, s5⟩
     go_simp
     with_reducible rfl
    rotate_left
    ·
     simp only [Act.put, sI_, s0_, s1_, i64_w, i32_w]
     rfl
    refine one_ (i := 1) (N := some 10) #[true, true, true, false, true, false, false, false, false] rfl rfl (one_of HT_.out (by kernel_rfl)) (by decide) (fun K hK => ?_)
    refine goes_ Try.func11 (by kernel_rfl) rfl #[.agg #[.bool a0_0, .slice A0_1 l0_1.length c0_1]] (by rfl) rfl rfl (by (try simp only [List.map_toArray, List.map_cons, List.map_nil]); rfl) ?_
    with_reducible refine (zelligelaw04_Short.calls a0_0 _ _ l0_1 t904 t905 _ ?side1 ?side2 A4.out).mono ?_
    (case side1 => repeat (exact (Kd.C_below HR0_1.out HB.out)))
    (case side2 => exact HC0_1.out)
    rintro e w26 ⟨v906, rfl, ho0, hb⟩
    refine ⟨_, rfl, ?_⟩
    have HO907 := am (Kd.R_lower ho0 (below_size HB.out))
    replace BK901 := am (blk_below BK901.out hb)
    replace BK902 := am (blk_below BK902.out hb)
    replace BK903 := am (blk_below BK903.out hb)
    replace HB := am (below_step HB.out hb)
    try clear hb
    try clear ho0
    refine hK.out _ _ ⟨(blk_cell BK901.out 0).trans rfl, (blk_cell BK901.out 1).trans rfl, (blk_cell BK902.out 0).trans rfl, (blk_cell BK902.out 1).trans rfl, (blk_cell BK903.out 0).trans rfl, (blk_cell BK903.out 1).trans rfl⟩ (fun hHeld => ?_)
    clear hK K
    refine norm_ (a' := ?_) ?_ ?_
    rotate_left
    ·
     show Act.put _ (some 10) _ = _
     simp only [Act.put, sI_, s0_, s1_, i64_w, i32_w]
     rfl
    refine one_ (i := 3) (N := some 12) #[true, true, true, true, true, false, false, false, false] rfl rfl (one_of HT_.out (by kernel_rfl)) (by decide) (fun K hK => ?_)
    refine goes_ Try.func11 (by kernel_rfl) rfl #[.agg #[.bool a1_0, .slice A1_1 l1_1.length c1_1]] (by rfl) rfl rfl (by (try simp only [List.map_toArray, List.map_cons, List.map_nil]); rfl) ?_
    with_reducible refine (zelligelaw04_Short.calls a1_0 _ _ l1_1 t908 t909 _ ?side1 ?side2 A5.out).mono ?_
    (case side1 => repeat (exact (Kd.C_below HR1_1.out HB.out)))
    (case side2 => exact HC1_1.out)
    rintro e w27 ⟨v910, rfl, ho0, hb⟩
    refine ⟨_, rfl, ?_⟩
    have HO911 := am (Kd.R_lower (Kd.R_new' ho0 (Kd.R_lt HO907.out)) (below_size HB.out))
    replace HO907 := am (Kd.R_elder' HO907.out (Kd.R_base ho0) hb)
    replace BK901 := am (blk_below BK901.out hb)
    replace BK902 := am (blk_below BK902.out hb)
    replace BK903 := am (blk_below BK903.out hb)
    replace HB := am (below_step HB.out hb)
    try clear hb
    try clear ho0
    refine hK.out _ _ ⟨(blk_cell BK901.out 0).trans rfl, (blk_cell BK901.out 1).trans rfl, (blk_cell BK902.out 0).trans rfl, (blk_cell BK902.out 1).trans rfl, (blk_cell BK903.out 0).trans rfl, (blk_cell BK903.out 1).trans rfl⟩ (fun hHeld => ?_)
    clear hK K
    refine norm_ (a' := ?_) ?_ ?_
    rotate_left
    ·
     show Act.put _ (some 12) _ = _
     simp only [Act.put, sI_, s0_, s1_, i64_w, i32_w]
     rfl
    refine one_ (i := 5) (N := some 14) #[true, true, true, true, true, true, false, false, false] rfl rfl (one_of HT_.out (by kernel_rfl)) (by decide) (fun K hK => ?_)
    refine goes_ Try.func11 (by kernel_rfl) rfl #[.agg #[.bool a2_0, .slice A2_1 l2_1.length c2_1]] (by rfl) rfl rfl (by (try simp only [List.map_toArray, List.map_cons, List.map_nil]); rfl) ?_
    with_reducible refine (zelligelaw04_Short.calls a2_0 _ _ l2_1 t912 t913 _ ?side1 ?side2 A6.out).mono ?_
    (case side1 => repeat (exact (Kd.C_below HR2_1.out HB.out)))
    (case side2 => exact HC2_1.out)
    rintro e w28 ⟨v914, rfl, ho0, hb⟩
    refine ⟨_, rfl, ?_⟩
    have HO915 := am (Kd.R_lower (Kd.R_new' (Kd.R_new' ho0 (Kd.R_lt HO907.out)) (Kd.R_lt HO911.out)) (below_size HB.out))
    replace HO907 := am (Kd.R_elder' HO907.out (Kd.R_base ho0) hb)
    replace HO911 := am (Kd.R_elder' HO911.out (Kd.R_base ho0) hb)
    replace BK901 := am (blk_below BK901.out hb)
    replace BK902 := am (blk_below BK902.out hb)
    replace BK903 := am (blk_below BK903.out hb)
    replace HB := am (below_step HB.out hb)
    try clear hb
    try clear ho0
    obtain ⟨Ao30, co30, eo30⟩ := Kd.R_slice HO907.out
    (subst eo30)
    obtain ⟨Ao33, co33, eo33⟩ := Kd.R_slice HO911.out
    (subst eo33)
    obtain ⟨Ao36, co36, eo36⟩ := Kd.R_slice HO915.out
    (subst eo36)
    refine hK.out _ _ ⟨(blk_cell BK901.out 0).trans rfl, (blk_cell BK901.out 1).trans rfl, (blk_cell BK902.out 0).trans rfl, (blk_cell BK902.out 1).trans rfl, (blk_cell BK903.out 0).trans rfl, (blk_cell BK903.out 1).trans rfl⟩ (fun hHeld => ?_)
    clear hK K
    refine norm_ (a' := ?_) ?_ ?_
    rotate_left
    ·
     show Act.put _ (some 14) _ = _
     simp only [Act.put, sI_, s0_, s1_, i64_w, i32_w]
     rfl
    refine last_ (i := 6) (N := none) #[true, true, true, true, true, true, true, false, false] rfl rfl (one_of HT_.out (by kernel_rfl)) (by decide) (fun K hK => ?_)
    have hs29 : w28.cell? ⟨gb901, 0, none⟩ = some (.bool a0_0) := (blk_cell BK901.out 0).trans rfl
    have hfs29 := blk_frozen BK901.out 0
    have hns29_1 := NB902_901.out
    have hns29_2 := NB903_901.out
    have hms29_1 := NB901_902.out
    have hms29_2 := NB901_903.out
    have hs31 : w28.cell? ⟨gb901, 1, none⟩ = some (.slice A0_1 l0_1.length c0_1) := (blk_cell BK901.out 1).trans rfl
    have hfs31 := blk_frozen BK901.out 1
    have hns31_1 := NB902_901.out
    have hns31_2 := NB903_901.out
    have hms31_1 := NB901_902.out
    have hms31_2 := NB901_903.out
    refine skip_ (w1 := ?_) (by rfl) rfl ?_ ?_
    rotate_left
    ·
     go_simp
     rfl
    refine hK.out _ _ ?_
    clear hK K
    refine last_ (i := 7) (N := none) #[true, true, true, true, true, true, true, true, false] rfl rfl (one_of HT_.out (by kernel_rfl)) (by decide) (fun K hK => ?_)
    have hs32 : w28.cell? ⟨gb902, 0, none⟩ = some (.bool a1_0) := (blk_cell BK902.out 0).trans rfl
    have hfs32 := blk_frozen BK902.out 0
    have hns32_0 := NB901_902.out
    have hns32_2 := NB903_902.out
    have hms32_0 := NB902_901.out
    have hms32_2 := NB902_903.out
    have hs34 : w28.cell? ⟨gb902, 1, none⟩ = some (.slice A1_1 l1_1.length c1_1) := (blk_cell BK902.out 1).trans rfl
    have hfs34 := blk_frozen BK902.out 1
    have hns34_0 := NB901_902.out
    have hns34_2 := NB903_902.out
    have hms34_0 := NB902_901.out
    have hms34_2 := NB902_903.out
    refine skip_ (w1 := ?_) (by rfl) rfl ?_ ?_
    rotate_left
    ·
     go_simp
     rfl
    refine hK.out _ _ ?_
    clear hK K
    refine last_ (i := 8) (N := none) #[true, true, true, true, true, true, true, true, true] rfl rfl (one_of HT_.out (by kernel_rfl)) (by decide) (fun K hK => ?_)
    have hs35 : w28.cell? ⟨gb903, 0, none⟩ = some (.bool a2_0) := (blk_cell BK903.out 0).trans rfl
    have hfs35 := blk_frozen BK903.out 0
    have hns35_0 := NB901_903.out
    have hns35_1 := NB902_903.out
    have hms35_0 := NB903_901.out
    have hms35_1 := NB903_902.out
    have hs37 : w28.cell? ⟨gb903, 1, none⟩ = some (.slice A2_1 l2_1.length c2_1) := (blk_cell BK903.out 1).trans rfl
    have hfs37 := blk_frozen BK903.out 1
    have hns37_0 := NB901_903.out
    have hns37_1 := NB902_903.out
    have hms37_0 := NB903_901.out
    have hms37_1 := NB903_902.out
    refine skip_ (w1 := ?_) (by rfl) rfl ?_ ?_
    rotate_left
    ·
     go_simp
     rfl
    refine hK.out _ _ ?_
    clear hK K
    refine done_ (done_of HT_.out (by kernel_rfl)) ?_
    try go_wp2
    have n0_ : Aside0 (Kd.R (Kd.int .u32) 78 ((((((w28.setCell ⟨gb901, 0, none⟩ (.bool t904)).setCell ⟨gb901, 1, none⟩ (.slice Ao30 t905.length co30)).setCell ⟨gb902, 0, none⟩ (.bool t908)).setCell ⟨gb902, 1, none⟩ (.slice Ao33 t909.length co33)).setCell ⟨gb903, 0, none⟩ (.bool t912)).setCell ⟨gb903, 1, none⟩ (.slice Ao36 t913.length co36)) w.heap.size (fun k_ => some k_ ≠ (.slice Ao33 t909.length co33 : Value).ownBlock ∧ some k_ ≠ (.slice Ao36 t913.length co36 : Value).ownBlock) (.slice Ao30 t905.length co30) t905) := ⟨by exact Kd.R_mono (Kd.R_far (p := ⟨gb903, 1, none⟩) (Kd.R_far (p := ⟨gb903, 0, none⟩) (Kd.R_far (p := ⟨gb902, 1, none⟩) (Kd.R_far (p := ⟨gb902, 0, none⟩) (Kd.R_far (p := ⟨gb901, 1, none⟩) (Kd.R_far (p := ⟨gb901, 0, none⟩) (Kd.R_types (Kd.R_types (Kd.R_types HO907.out BK901.out (by decide)) BK902.out (by decide)) BK903.out (by decide)) (fun _ hk => by exact hk.1.1.2) (.bool t904)) (fun _ hk => by exact hk.1.1.2) (.slice Ao30 t905.length co30)) (fun _ hk => by exact hk.1.2) (.bool t908)) (fun _ hk => by exact hk.1.2) (.slice Ao33 t909.length co33)) (fun _ hk => by exact hk.2) (.bool t912)) (fun _ hk => by exact hk.2) (.slice Ao36 t913.length co36)) (fun _ hk => ⟨hk.1.1.1.1.2, hk.1.1.1.2⟩)⟩
    have n1_ : Aside0 (Kd.R (Kd.int .u32) 78 ((((((w28.setCell ⟨gb901, 0, none⟩ (.bool t904)).setCell ⟨gb901, 1, none⟩ (.slice Ao30 t905.length co30)).setCell ⟨gb902, 0, none⟩ (.bool t908)).setCell ⟨gb902, 1, none⟩ (.slice Ao33 t909.length co33)).setCell ⟨gb903, 0, none⟩ (.bool t912)).setCell ⟨gb903, 1, none⟩ (.slice Ao36 t913.length co36)) w.heap.size (fun k_ => some k_ ≠ (.slice Ao30 t905.length co30 : Value).ownBlock ∧ some k_ ≠ (.slice Ao36 t913.length co36 : Value).ownBlock) (.slice Ao33 t909.length co33) t909) := ⟨by exact Kd.R_mono (Kd.R_far (p := ⟨gb903, 1, none⟩) (Kd.R_far (p := ⟨gb903, 0, none⟩) (Kd.R_far (p := ⟨gb902, 1, none⟩) (Kd.R_far (p := ⟨gb902, 0, none⟩) (Kd.R_far (p := ⟨gb901, 1, none⟩) (Kd.R_far (p := ⟨gb901, 0, none⟩) (Kd.R_types (Kd.R_types (Kd.R_types HO911.out BK901.out (by decide)) BK902.out (by decide)) BK903.out (by decide)) (fun _ hk => by exact hk.1.1.2) (.bool t904)) (fun _ hk => by exact hk.1.1.2) (.slice Ao30 t905.length co30)) (fun _ hk => by exact hk.1.2) (.bool t908)) (fun _ hk => by exact hk.1.2) (.slice Ao33 t909.length co33)) (fun _ hk => by exact hk.2) (.bool t912)) (fun _ hk => by exact hk.2) (.slice Ao36 t913.length co36)) (fun _ hk => ⟨hk.1.1.1.1.2, hk.1.1.1.2⟩)⟩
    have n2_ : Aside0 (Kd.R (Kd.int .u32) 78 ((((((w28.setCell ⟨gb901, 0, none⟩ (.bool t904)).setCell ⟨gb901, 1, none⟩ (.slice Ao30 t905.length co30)).setCell ⟨gb902, 0, none⟩ (.bool t908)).setCell ⟨gb902, 1, none⟩ (.slice Ao33 t909.length co33)).setCell ⟨gb903, 0, none⟩ (.bool t912)).setCell ⟨gb903, 1, none⟩ (.slice Ao36 t913.length co36)) w.heap.size (fun k_ => some k_ ≠ (.slice Ao30 t905.length co30 : Value).ownBlock ∧ some k_ ≠ (.slice Ao33 t909.length co33 : Value).ownBlock) (.slice Ao36 t913.length co36) t913) := ⟨by exact Kd.R_mono (Kd.R_far (p := ⟨gb903, 1, none⟩) (Kd.R_far (p := ⟨gb903, 0, none⟩) (Kd.R_far (p := ⟨gb902, 1, none⟩) (Kd.R_far (p := ⟨gb902, 0, none⟩) (Kd.R_far (p := ⟨gb901, 1, none⟩) (Kd.R_far (p := ⟨gb901, 0, none⟩) (Kd.R_types (Kd.R_types (Kd.R_types HO915.out BK901.out (by decide)) BK902.out (by decide)) BK903.out (by decide)) (fun _ hk => by exact hk.1.1.2) (.bool t904)) (fun _ hk => by exact hk.1.1.2) (.slice Ao30 t905.length co30)) (fun _ hk => by exact hk.1.2) (.bool t908)) (fun _ hk => by exact hk.1.2) (.slice Ao33 t909.length co33)) (fun _ hk => by exact hk.2) (.bool t912)) (fun _ hk => by exact hk.2) (.slice Ao36 t913.length co36)) (fun _ hk => ⟨hk.1.1.1.1.2, hk.1.1.1.2⟩)⟩
    have n3_ : Aside0 (((((((w28.setCell ⟨gb901, 0, none⟩ (.bool t904)).setCell ⟨gb901, 1, none⟩ (.slice Ao30 t905.length co30)).setCell ⟨gb902, 0, none⟩ (.bool t908)).setCell ⟨gb902, 1, none⟩ (.slice Ao33 t909.length co33)).setCell ⟨gb903, 0, none⟩ (.bool t912)).setCell ⟨gb903, 1, none⟩ (.slice Ao36 t913.length co36)).heap[gb901]? = some (.cells #[.bool t904, .slice Ao30 t905.length co30] 25 (0, 0))) := ⟨by refine blk_far ?_ NB901_903.out _; refine blk_far ?_ NB901_903.out _; refine blk_far ?_ NB901_902.out _; refine blk_far ?_ NB901_902.out _; refine blk_put (cs := #[.bool t904, .slice A0_1 l0_1.length c0_1]) ?_ 1 _ rfl; refine blk_put (cs := #[.bool a0_0, .slice A0_1 l0_1.length c0_1]) ?_ 0 _ rfl; exact BK901.out⟩
    have n4_ : Aside0 (((((((w28.setCell ⟨gb901, 0, none⟩ (.bool t904)).setCell ⟨gb901, 1, none⟩ (.slice Ao30 t905.length co30)).setCell ⟨gb902, 0, none⟩ (.bool t908)).setCell ⟨gb902, 1, none⟩ (.slice Ao33 t909.length co33)).setCell ⟨gb903, 0, none⟩ (.bool t912)).setCell ⟨gb903, 1, none⟩ (.slice Ao36 t913.length co36)).heap[gb902]? = some (.cells #[.bool t908, .slice Ao33 t909.length co33] 25 (0, 0))) := ⟨by refine blk_far ?_ NB902_903.out _; refine blk_far ?_ NB902_903.out _; refine blk_put (cs := #[.bool t908, .slice A1_1 l1_1.length c1_1]) ?_ 1 _ rfl; refine blk_put (cs := #[.bool a1_0, .slice A1_1 l1_1.length c1_1]) ?_ 0 _ rfl; refine blk_far ?_ NB902_901.out _; refine blk_far ?_ NB902_901.out _; exact BK902.out⟩
    have n5_ : Aside0 (((((((w28.setCell ⟨gb901, 0, none⟩ (.bool t904)).setCell ⟨gb901, 1, none⟩ (.slice Ao30 t905.length co30)).setCell ⟨gb902, 0, none⟩ (.bool t908)).setCell ⟨gb902, 1, none⟩ (.slice Ao33 t909.length co33)).setCell ⟨gb903, 0, none⟩ (.bool t912)).setCell ⟨gb903, 1, none⟩ (.slice Ao36 t913.length co36)).heap[gb903]? = some (.cells #[.bool t912, .slice Ao36 t913.length co36] 25 (0, 0))) := ⟨by refine blk_put (cs := #[.bool t912, .slice A2_1 l2_1.length c2_1]) ?_ 1 _ rfl; refine blk_put (cs := #[.bool a2_0, .slice A2_1 l2_1.length c2_1]) ?_ 0 _ rfl; refine blk_far ?_ NB903_902.out _; refine blk_far ?_ NB903_902.out _; refine blk_far ?_ NB903_901.out _; refine blk_far ?_ NB903_901.out _; exact BK903.out⟩
    have n6_ : Aside0 (Below w.heap.size w ((((((w28.setCell ⟨gb901, 0, none⟩ (.bool t904)).setCell ⟨gb901, 1, none⟩ (.slice Ao30 t905.length co30)).setCell ⟨gb902, 0, none⟩ (.bool t908)).setCell ⟨gb902, 1, none⟩ (.slice Ao33 t909.length co33)).setCell ⟨gb903, 0, none⟩ (.bool t912)).setCell ⟨gb903, 1, none⟩ (.slice Ao36 t913.length co36))) := ⟨by repeat ((with_reducible first | exact HB.out | refine below_set ?_ GE901.out | refine below_set ?_ GE902.out | refine below_set ?_ GE903.out))⟩
    try clear HO907
    try clear HO911
    try clear HO915
    try clear BK901
    try clear BK902
    try clear BK903
    (try clear HB)
    generalize ((((((w28.setCell ⟨gb901, 0, none⟩ (.bool t904)).setCell ⟨gb901, 1, none⟩ (.slice Ao30 t905.length co30)).setCell ⟨gb902, 0, none⟩ (.bool t908)).setCell ⟨gb902, 1, none⟩ (.slice Ao33 t909.length co33)).setCell ⟨gb903, 0, none⟩ (.bool t912)).setCell ⟨gb903, 1, none⟩ (.slice Ao36 t913.length co36)) = w38 at n0_ n1_ n2_ n3_ n4_ n5_ n6_ ⊢
    have HO907 := n0_
    have HO911 := n1_
    have HO915 := n2_
    have BK901 := n3_
    have BK902 := n4_
    have BK903 := n5_
    have HB := n6_
    clear n0_ n1_ n2_ n3_ n4_ n5_ n6_
    replace HO907 := am (Kd.R_drew HO907.out)
    replace HO911 := am (Kd.R_drew HO911.out)
    replace HO915 := am (Kd.R_drew HO915.out)
    replace BK901 := am (blk_drew BK901.out)
    replace BK902 := am (blk_drew BK902.out)
    replace BK903 := am (blk_drew BK903.out)
    replace HB := am (below_drew1 HB.out)
    refine start_ (n := 16) (S := fun w' => True) (ds := []) #[false, false, false, false, false, false, false, false, false, false, false, false, false, false, false, false] (by kernel_rfl) rfl rfl trivial (fun hHeld => ?_); refine with_tabW zelligelaw04_WholeRings.tab2 zelligelaw04_WholeRings.bits2 (fun HT_ HW_ => ?_)
    generalize w38.drew = w39 at HO907 HO911 HO915 BK901 BK902 BK903 HB hHeld ⊢
    refine inv_at [0, 1, 2, 3, 4, 5, 6, 7, 8, 9, 10, 11, 12, 13, 14, 15] (fun a0_ b a w' => ∃ (v918 : Value) (v922 : Value) (v926 : Value) (v930 : Value) (v934 : Value) (gb936 : Nat) (gb937 : Nat) (m3_ : Value) (m4_ : Value) (m7_ : Value) (m10_ : Value) (m11_ : Value) (m12_ : Value) (m13_ : Value), a = putSel a0_ b [(0, 15, .agg #[.bool t904, .slice Ao30 t905.length co30]), (1, 16, .agg #[.bool t908, .slice Ao33 t909.length co33]), (2, 17, .agg #[.bool t912, .slice Ao36 t913.length co36]), (3, 18, m3_), (4, 19, m4_), (5, 20, .agg #[.bool t904, .slice Ao30 t905.length co30]), (6, 21, .agg #[.bool t908, .slice Ao33 t909.length co33]), (7, 22, m7_), (8, 23, .agg #[.bool t904, .slice Ao30 t905.length co30]), (9, 24, .agg #[.bool t912, .slice Ao36 t913.length co36]), (10, 25, m10_), (11, 26, m11_), (12, 7, m12_), (13, 8, m13_)] ∧ (Kd.R (Kd.int .u32) 78 w' w.heap.size (fun k_ => some k_ ≠ (.slice Ao33 t909.length co33 : Value).ownBlock ∧ some k_ ≠ (.slice Ao36 t913.length co36 : Value).ownBlock) (.slice Ao30 t905.length co30) t905) ∧ (Kd.R (Kd.int .u32) 78 w' w.heap.size (fun k_ => some k_ ≠ (.slice Ao30 t905.length co30 : Value).ownBlock ∧ some k_ ≠ (.slice Ao36 t913.length co36 : Value).ownBlock) (.slice Ao33 t909.length co33) t909) ∧ (Kd.R (Kd.int .u32) 78 w' w.heap.size (fun k_ => some k_ ≠ (.slice Ao30 t905.length co30 : Value).ownBlock ∧ some k_ ≠ (.slice Ao33 t909.length co33 : Value).ownBlock) (.slice Ao36 t913.length co36) t913) ∧ (w'.heap[gb901]? = some (.cells #[.bool t904, .slice Ao30 t905.length co30] 25 (0, 0))) ∧ (w'.heap[gb902]? = some (.cells #[.bool t908, .slice Ao33 t909.length co33] 25 (0, 0))) ∧ (w'.heap[gb903]? = some (.cells #[.bool t912, .slice Ao36 t913.length co36] 25 (0, 0))) ∧ (Below w.heap.size w w') ∧ (b 12 = true → b 13 = true → gb937 ≠ gb936) ∧ (b 12 = true → b 13 = true → gb936 ≠ gb937) ∧ (b 3 = true → Kd.R (Kd.int .u32) 78 w' w.heap.size (fun k_ => some k_ ≠ (.slice Ao30 t905.length co30 : Value).ownBlock ∧ some k_ ≠ (.slice Ao33 t909.length co33 : Value).ownBlock ∧ some k_ ≠ (.slice Ao36 t913.length co36 : Value).ownBlock) v918 t917) ∧ (b 4 = true → Kd.R (Kd.int .u32) 78 w' w.heap.size (fun k_ => some k_ ≠ (.slice Ao30 t905.length co30 : Value).ownBlock ∧ some k_ ≠ (.slice Ao33 t909.length co33 : Value).ownBlock ∧ some k_ ≠ (.slice Ao36 t913.length co36 : Value).ownBlock) v922 t921) ∧ (b 7 = true → Kd.R (Kd.int .u32) 78 w' w.heap.size (fun k_ => some k_ ≠ (.slice Ao30 t905.length co30 : Value).ownBlock ∧ some k_ ≠ (.slice Ao33 t909.length co33 : Value).ownBlock ∧ some k_ ≠ (.slice Ao36 t913.length co36 : Value).ownBlock) v926 t925) ∧ (b 10 = true → Kd.R (Kd.int .u32) 78 w' w.heap.size (fun k_ => some k_ ≠ (.slice Ao30 t905.length co30 : Value).ownBlock ∧ some k_ ≠ (.slice Ao33 t909.length co33 : Value).ownBlock ∧ some k_ ≠ (.slice Ao36 t913.length co36 : Value).ownBlock) v930 t929) ∧ (b 11 = true → Kd.R (Kd.int .u32) 78 w' w.heap.size (fun k_ => some k_ ≠ (.slice Ao30 t905.length co30 : Value).ownBlock ∧ some k_ ≠ (.slice Ao33 t909.length co33 : Value).ownBlock ∧ some k_ ≠ (.slice Ao36 t913.length co36 : Value).ownBlock) v934 t933) ∧ (b 12 = true → b 14 = false → w'.heap[gb936]? = some (.cells #[.bool false, .slice none 0 0] 25 (0, 0))) ∧ (b 12 = true → w.heap.size ≤ gb936) ∧ (b 12 = true → w.heap.size ≤ gb936) ∧ (b 12 = true → gb901 ≠ gb936) ∧ (b 12 = true → gb936 ≠ gb901) ∧ (b 12 = true → gb902 ≠ gb936) ∧ (b 12 = true → gb936 ≠ gb902) ∧ (b 12 = true → gb903 ≠ gb936) ∧ (b 12 = true → gb936 ≠ gb903) ∧ (b 13 = true → b 15 = false → w'.heap[gb937]? = some (.cells #[.bool false, .slice none 0 0] 25 (0, 0))) ∧ (b 13 = true → w.heap.size ≤ gb937) ∧ (b 13 = true → w.heap.size ≤ gb937) ∧ (b 13 = true → gb901 ≠ gb937) ∧ (b 13 = true → gb937 ≠ gb901) ∧ (b 13 = true → gb902 ≠ gb937) ∧ (b 13 = true → gb937 ≠ gb902) ∧ (b 13 = true → gb903 ≠ gb937) ∧ (b 13 = true → gb937 ≠ gb903) ∧ (b 14 = true → w'.heap[gb936]? = some (.cells #[.bool t920, v922] 25 (0, 0))) ∧ (b 15 = true → w'.heap[gb937]? = some (.cells #[.bool t932, v934] 25 (0, 0))) ∧ (b 3 = true → (m3_ : Value) = .agg #[.bool t916, v918]) ∧ (b 4 = true → (m4_ : Value) = .agg #[.bool t920, v922]) ∧ (b 7 = true → (m7_ : Value) = .agg #[.bool t924, v926]) ∧ (b 10 = true → (m10_ : Value) = .agg #[.bool t928, v930]) ∧ (b 11 = true → (m11_ : Value) = .agg #[.bool t932, v934]) ∧ (b 12 = true → (m12_ : Value) = .pointer (some ⟨gb936, 0, none⟩)) ∧ (b 13 = true → (m13_ : Value) = .pointer (some ⟨gb937, 0, none⟩))) HT_.out HW_.out (by kernel_rfl) (by kernel_rfl) ?_ ?_ ?_
    ·
     exact ⟨.bool false, .bool false, .bool false, .bool false, .bool false, 0, 0, .bool false, .bool false, .bool false, .bool false, .bool false, .bool false, .bool false, by simp only [putSel, Bool.false_eq_true, if_false], HO907.out, HO911.out, HO915.out, BK901.out, BK902.out, BK903.out, HB.out, fun h_ => absurd h_ (by decide), fun h_ => absurd h_ (by decide), fun h_ => absurd h_ (by decide), fun h_ => absurd h_ (by decide), fun h_ => absurd h_ (by decide), fun h_ => absurd h_ (by decide), fun h_ => absurd h_ (by decide), fun h_ => absurd h_ (by decide), fun h_ => absurd h_ (by decide), fun h_ => absurd h_ (by decide), fun h_ => absurd h_ (by decide), fun h_ => absurd h_ (by decide), fun h_ => absurd h_ (by decide), fun h_ => absurd h_ (by decide), fun h_ => absurd h_ (by decide), fun h_ => absurd h_ (by decide), fun h_ => absurd h_ (by decide), fun h_ => absurd h_ (by decide), fun h_ => absurd h_ (by decide), fun h_ => absurd h_ (by decide), fun h_ => absurd h_ (by decide), fun h_ => absurd h_ (by decide), fun h_ => absurd h_ (by decide), fun h_ => absurd h_ (by decide), fun h_ => absurd h_ (by decide), fun h_ => absurd h_ (by decide), fun h_ => absurd h_ (by decide), fun h_ => absurd h_ (by decide), fun h_ => absurd h_ (by decide), fun h_ => absurd h_ (by decide), fun h_ => absurd h_ (by decide), fun h_ => absurd h_ (by decide), fun h_ => absurd h_ (by decide), fun h_ => absurd h_ (by decide)⟩
    ·
     skip
     clear BK901 BK902 BK903 HB HO907 HO911 HO915
     refine steps_cons ?_ ?_
     ·
      rintro b a w' ⟨v918, v922, v926, v930, v934, gb936, gb937, m3_, m4_, m7_, m10_, m11_, m12_, m13_, ha, Q_HO907, Q_HO911, Q_HO915, Q_BK901, Q_BK902, Q_BK903, Q_HB, Q_NB937_936, Q_NB936_937, Q_HO919, Q_HO923, Q_HO927, Q_HO931, Q_HO935, Q_BK936, Q_GW936, Q_GE936, Q_NB901_936, Q_NB936_901, Q_NB902_936, Q_NB936_902, Q_NB903_936, Q_NB936_903, Q_BK937, Q_GW937, Q_GE937, Q_NB901_937, Q_NB937_901, Q_NB902_937, Q_NB937_902, Q_NB903_937, Q_NB937_903, Q_BK936_e14, Q_BK937_e15, Q_X3_, Q_X4_, Q_X7_, Q_X10_, Q_X11_, Q_X12_, Q_X13_⟩ hb_ hon hoff
      refine ⟨_, rfl, fun K hK => ?_⟩
      have e3 : a.tmps[3]? = some (.pointer (some ⟨gb901, 0, none⟩)) := by rw [ha]; exact (putSel_off rfl).trans rfl
      replace ha := am ha
      have HO907 := am Q_HO907
      have HO911 := am Q_HO911
      have HO915 := am Q_HO915
      have BK901 := am Q_BK901
      have BK902 := am Q_BK902
      have BK903 := am Q_BK903
      have HB := am Q_HB
      have hc0_ : w'.cell? ⟨gb901, 0, none⟩ = some (.bool t904) := (blk_cell BK901.out 0).trans rfl
      have hc1_ : w'.cell? ⟨gb901, 1, none⟩ = some (.slice Ao30 t905.length co30) := (blk_cell BK901.out 1).trans rfl
      refine value_ (w1 := w') (v := .agg #[.bool t904, .slice Ao30 t905.length co30]) (by rfl) rfl ?_ ?_
      ·
       go_simp
      refine hK.out _ _ ⟨v918, v922, v926, v930, v934, gb936, gb937, m3_, m4_, m7_, m10_, m11_, m12_, m13_, (by rw [ha.out]; exact putSel_upk 0 hb_ rfl rfl rfl), Q_HO907, Q_HO911, Q_HO915, Q_BK901, Q_BK902, Q_BK903, Q_HB, Q_NB937_936, Q_NB936_937, Q_HO919, fun h0_ => absurd ((hoff 4 (by kernel_rfl)).symm.trans h0_) (by decide), fun h0_ => absurd ((hoff 7 (by kernel_rfl)).symm.trans h0_) (by decide), fun h0_ => absurd ((hoff 10 (by kernel_rfl)).symm.trans h0_) (by decide), fun h0_ => absurd ((hoff 11 (by kernel_rfl)).symm.trans h0_) (by decide), Q_BK936, Q_GW936, Q_GE936, Q_NB901_936, Q_NB936_901, Q_NB902_936, Q_NB936_902, Q_NB903_936, Q_NB936_903, Q_BK937, Q_GW937, Q_GE937, Q_NB901_937, Q_NB937_901, Q_NB902_937, Q_NB937_902, Q_NB903_937, Q_NB937_903, fun h0_ => absurd ((hoff 14 (by kernel_rfl)).symm.trans h0_) (by decide), fun h0_ => absurd ((hoff 15 (by kernel_rfl)).symm.trans h0_) (by decide), Q_X3_, fun h0_ => absurd ((hoff 4 (by kernel_rfl)).symm.trans h0_) (by decide), fun h0_ => absurd ((hoff 7 (by kernel_rfl)).symm.trans h0_) (by decide), fun h0_ => absurd ((hoff 10 (by kernel_rfl)).symm.trans h0_) (by decide), fun h0_ => absurd ((hoff 11 (by kernel_rfl)).symm.trans h0_) (by decide), Q_X12_, Q_X13_⟩
     refine steps_cons ?_ ?_
     ·
      rintro b a w' ⟨v918, v922, v926, v930, v934, gb936, gb937, m3_, m4_, m7_, m10_, m11_, m12_, m13_, ha, Q_HO907, Q_HO911, Q_HO915, Q_BK901, Q_BK902, Q_BK903, Q_HB, Q_NB937_936, Q_NB936_937, Q_HO919, Q_HO923, Q_HO927, Q_HO931, Q_HO935, Q_BK936, Q_GW936, Q_GE936, Q_NB901_936, Q_NB936_901, Q_NB902_936, Q_NB936_902, Q_NB903_936, Q_NB936_903, Q_BK937, Q_GW937, Q_GE937, Q_NB901_937, Q_NB937_901, Q_NB902_937, Q_NB937_902, Q_NB903_937, Q_NB937_903, Q_BK936_e14, Q_BK937_e15, Q_X3_, Q_X4_, Q_X7_, Q_X10_, Q_X11_, Q_X12_, Q_X13_⟩ hb_ hon hoff
      refine ⟨_, rfl, fun K hK => ?_⟩
      have e4 : a.tmps[4]? = some (.pointer (some ⟨gb902, 0, none⟩)) := by rw [ha]; exact (putSel_off rfl).trans rfl
      replace ha := am ha
      have HO907 := am Q_HO907
      have HO911 := am Q_HO911
      have HO915 := am Q_HO915
      have BK901 := am Q_BK901
      have BK902 := am Q_BK902
      have BK903 := am Q_BK903
      have HB := am Q_HB
      have hc0_ : w'.cell? ⟨gb902, 0, none⟩ = some (.bool t908) := (blk_cell BK902.out 0).trans rfl
      have hc1_ : w'.cell? ⟨gb902, 1, none⟩ = some (.slice Ao33 t909.length co33) := (blk_cell BK902.out 1).trans rfl
      refine value_ (w1 := w') (v := .agg #[.bool t908, .slice Ao33 t909.length co33]) (by rfl) rfl ?_ ?_
      ·
       go_simp
      refine hK.out _ _ ⟨v918, v922, v926, v930, v934, gb936, gb937, m3_, m4_, m7_, m10_, m11_, m12_, m13_, (by rw [ha.out]; exact putSel_upk 1 hb_ rfl rfl rfl), Q_HO907, Q_HO911, Q_HO915, Q_BK901, Q_BK902, Q_BK903, Q_HB, Q_NB937_936, Q_NB936_937, fun h0_ => absurd ((hoff 3 (by kernel_rfl)).symm.trans h0_) (by decide), fun h0_ => absurd ((hoff 4 (by kernel_rfl)).symm.trans h0_) (by decide), fun h0_ => absurd ((hoff 7 (by kernel_rfl)).symm.trans h0_) (by decide), fun h0_ => absurd ((hoff 10 (by kernel_rfl)).symm.trans h0_) (by decide), fun h0_ => absurd ((hoff 11 (by kernel_rfl)).symm.trans h0_) (by decide), Q_BK936, Q_GW936, Q_GE936, Q_NB901_936, Q_NB936_901, Q_NB902_936, Q_NB936_902, Q_NB903_936, Q_NB936_903, Q_BK937, Q_GW937, Q_GE937, Q_NB901_937, Q_NB937_901, Q_NB902_937, Q_NB937_902, Q_NB903_937, Q_NB937_903, fun h0_ => absurd ((hoff 14 (by kernel_rfl)).symm.trans h0_) (by decide), fun h0_ => absurd ((hoff 15 (by kernel_rfl)).symm.trans h0_) (by decide), fun h0_ => absurd ((hoff 3 (by kernel_rfl)).symm.trans h0_) (by decide), fun h0_ => absurd ((hoff 4 (by kernel_rfl)).symm.trans h0_) (by decide), fun h0_ => absurd ((hoff 7 (by kernel_rfl)).symm.trans h0_) (by decide), fun h0_ => absurd ((hoff 10 (by kernel_rfl)).symm.trans h0_) (by decide), fun h0_ => absurd ((hoff 11 (by kernel_rfl)).symm.trans h0_) (by decide), Q_X12_, Q_X13_⟩
     refine steps_cons ?_ ?_
     ·
      rintro b a w' ⟨v918, v922, v926, v930, v934, gb936, gb937, m3_, m4_, m7_, m10_, m11_, m12_, m13_, ha, Q_HO907, Q_HO911, Q_HO915, Q_BK901, Q_BK902, Q_BK903, Q_HB, Q_NB937_936, Q_NB936_937, Q_HO919, Q_HO923, Q_HO927, Q_HO931, Q_HO935, Q_BK936, Q_GW936, Q_GE936, Q_NB901_936, Q_NB936_901, Q_NB902_936, Q_NB936_902, Q_NB903_936, Q_NB936_903, Q_BK937, Q_GW937, Q_GE937, Q_NB901_937, Q_NB937_901, Q_NB902_937, Q_NB937_902, Q_NB903_937, Q_NB937_903, Q_BK936_e14, Q_BK937_e15, Q_X3_, Q_X4_, Q_X7_, Q_X10_, Q_X11_, Q_X12_, Q_X13_⟩ hb_ hon hoff
      refine ⟨_, rfl, fun K hK => ?_⟩
      have e5 : a.tmps[5]? = some (.pointer (some ⟨gb903, 0, none⟩)) := by rw [ha]; exact (putSel_off rfl).trans rfl
      replace ha := am ha
      have HO907 := am Q_HO907
      have HO911 := am Q_HO911
      have HO915 := am Q_HO915
      have BK901 := am Q_BK901
      have BK902 := am Q_BK902
      have BK903 := am Q_BK903
      have HB := am Q_HB
      have hc0_ : w'.cell? ⟨gb903, 0, none⟩ = some (.bool t912) := (blk_cell BK903.out 0).trans rfl
      have hc1_ : w'.cell? ⟨gb903, 1, none⟩ = some (.slice Ao36 t913.length co36) := (blk_cell BK903.out 1).trans rfl
      refine value_ (w1 := w') (v := .agg #[.bool t912, .slice Ao36 t913.length co36]) (by rfl) rfl ?_ ?_
      ·
       go_simp
      refine hK.out _ _ ⟨v918, v922, v926, v930, v934, gb936, gb937, m3_, m4_, m7_, m10_, m11_, m12_, m13_, (by rw [ha.out]; exact putSel_upk 2 hb_ rfl rfl rfl), Q_HO907, Q_HO911, Q_HO915, Q_BK901, Q_BK902, Q_BK903, Q_HB, Q_NB937_936, Q_NB936_937, fun h0_ => absurd ((hoff 3 (by kernel_rfl)).symm.trans h0_) (by decide), fun h0_ => absurd ((hoff 4 (by kernel_rfl)).symm.trans h0_) (by decide), fun h0_ => absurd ((hoff 7 (by kernel_rfl)).symm.trans h0_) (by decide), fun h0_ => absurd ((hoff 10 (by kernel_rfl)).symm.trans h0_) (by decide), fun h0_ => absurd ((hoff 11 (by kernel_rfl)).symm.trans h0_) (by decide), Q_BK936, Q_GW936, Q_GE936, Q_NB901_936, Q_NB936_901, Q_NB902_936, Q_NB936_902, Q_NB903_936, Q_NB936_903, Q_BK937, Q_GW937, Q_GE937, Q_NB901_937, Q_NB937_901, Q_NB902_937, Q_NB937_902, Q_NB903_937, Q_NB937_903, fun h0_ => absurd ((hoff 14 (by kernel_rfl)).symm.trans h0_) (by decide), fun h0_ => absurd ((hoff 15 (by kernel_rfl)).symm.trans h0_) (by decide), fun h0_ => absurd ((hoff 3 (by kernel_rfl)).symm.trans h0_) (by decide), fun h0_ => absurd ((hoff 4 (by kernel_rfl)).symm.trans h0_) (by decide), fun h0_ => absurd ((hoff 7 (by kernel_rfl)).symm.trans h0_) (by decide), fun h0_ => absurd ((hoff 10 (by kernel_rfl)).symm.trans h0_) (by decide), fun h0_ => absurd ((hoff 11 (by kernel_rfl)).symm.trans h0_) (by decide), Q_X12_, Q_X13_⟩
     refine steps_cons ?_ ?_
     ·
      rintro b a w' ⟨v918, v922, v926, v930, v934, gb936, gb937, m3_, m4_, m7_, m10_, m11_, m12_, m13_, ha, Q_HO907, Q_HO911, Q_HO915, Q_BK901, Q_BK902, Q_BK903, Q_HB, Q_NB937_936, Q_NB936_937, Q_HO919, Q_HO923, Q_HO927, Q_HO931, Q_HO935, Q_BK936, Q_GW936, Q_GE936, Q_NB901_936, Q_NB936_901, Q_NB902_936, Q_NB936_902, Q_NB903_936, Q_NB936_903, Q_BK937, Q_GW937, Q_GE937, Q_NB901_937, Q_NB937_901, Q_NB902_937, Q_NB937_902, Q_NB903_937, Q_NB937_903, Q_BK936_e14, Q_BK937_e15, Q_X3_, Q_X4_, Q_X7_, Q_X10_, Q_X11_, Q_X12_, Q_X13_⟩ hb_ hon hoff
      refine ⟨_, rfl, fun K hK => ?_⟩
      have e16 : a.tmps[16]? = some (.agg #[.bool t908, .slice Ao33 t909.length co33]) := by rw [ha]; exact putSel_on (e := (1, 16, .agg #[.bool t908, .slice Ao33 t909.length co33])) 1 rfl rfl (hon 1 (by kernel_rfl)) rfl
      have e17 : a.tmps[17]? = some (.agg #[.bool t912, .slice Ao36 t913.length co36]) := by rw [ha]; exact putSel_on (e := (2, 17, .agg #[.bool t912, .slice Ao36 t913.length co36])) 2 rfl rfl (hon 2 (by kernel_rfl)) rfl
      replace ha := am ha
      have HO907 := am Q_HO907
      have HO911 := am Q_HO911
      have HO915 := am Q_HO915
      have BK901 := am Q_BK901
      have BK902 := am Q_BK902
      have BK903 := am Q_BK903
      have HB := am Q_HB
      refine goes_ Try.func19 (by kernel_rfl) rfl #[.agg #[.bool t908, .slice Ao33 t909.length co33], .agg #[.bool t912, .slice Ao36 t913.length co36]] (by rfl) rfl rfl (by (simp only [List.map_toArray, List.map_cons, List.map_nil, Act.eval, Array.getD_eq_getD_getElem?, Option.getD_some, e16, e17]; done)) ?_
      with_reducible refine (whole_Add.calls k t908 _ _ t909 t912 _ _ t913 t916 t917 _ ?side1 ?side2 ?side3 ?side4 A7.out).mono ?_
      (case side1 => exact (Kd.R_reads' HO911.out).2.2)
      (case side2 => exact (Kd.R_reads' HO911.out).2.1)
      (case side3 => exact (Kd.R_reads' HO915.out).2.2)
      (case side4 => exact (Kd.R_reads' HO915.out).2.1)
      rintro e w40 ⟨v918, rfl, ho0, hb⟩
      refine ⟨_, rfl, ?_⟩
      have n0_ := am (Kd.R_elder' HO907.out (Kd.R_base ho0) hb)
      have n1_ := am (Kd.R_elder' HO911.out (Kd.R_base ho0) hb)
      have n2_ := am (Kd.R_elder' HO915.out (Kd.R_base ho0) hb)
      have n3_ := am (Kd.R_lower (Kd.R_new' (Kd.R_new' (Kd.R_new' ho0 (Kd.R_lt HO907.out)) (Kd.R_lt HO911.out)) (Kd.R_lt HO915.out)) (below_size HB.out))
      have n4_ := am (blk_below BK901.out hb)
      have n5_ := am (blk_below BK902.out hb)
      have n6_ := am (blk_below BK903.out hb)
      have n7_ := am (below_step HB.out hb)
      have z_BK936 := fun (h0_ : b 12 = true) (h1_ : b 14 = false) => (show w40.heap[gb936]? = some (.cells #[.bool false, .slice none 0 0] 25 (0, 0)) from by exact (blk_below (g := gb936) (o := .cells #[.bool false, .slice none 0 0] 25 (0, 0)) (by exact (Q_BK936 h0_ h1_)) hb))
      have z_BK937 := fun (h0_ : b 13 = true) (h1_ : b 15 = false) => (show w40.heap[gb937]? = some (.cells #[.bool false, .slice none 0 0] 25 (0, 0)) from by exact (blk_below (g := gb937) (o := .cells #[.bool false, .slice none 0 0] 25 (0, 0)) (by exact (Q_BK937 h0_ h1_)) hb))
      clear HO907
      clear HO911
      clear HO915
      clear BK901
      clear BK902
      clear BK903
      clear HB
      have HO907 := n0_
      have HO911 := n1_
      have HO915 := n2_
      have HO919 := n3_
      have BK901 := n4_
      have BK902 := n5_
      have BK903 := n6_
      have HB := n7_
      clear n0_ n1_ n2_ n3_ n4_ n5_ n6_ n7_
      try clear hb
      try clear ho0
      refine hK.out _ _ ⟨v918, v922, v926, v930, v934, gb936, gb937, (.agg #[.bool t916, v918]), m4_, m7_, m10_, m11_, m12_, m13_, (by rw [ha.out]; exact putSel_upk 3 hb_ rfl rfl rfl), (by exact Kd.R_mono HO907.out (fun _ hk => by grind)), (by exact Kd.R_mono HO911.out (fun _ hk => by grind)), (by exact Kd.R_mono HO915.out (fun _ hk => by grind)), BK901.out, BK902.out, BK903.out, HB.out, Q_NB937_936, Q_NB936_937, fun _ => (by exact Kd.R_mono HO919.out (fun _ hk => by exact ⟨hk.1.1.2, ⟨hk.1.2, hk.2⟩⟩)), fun h0_ => absurd ((hoff 4 (by kernel_rfl)).symm.trans h0_) (by decide), fun h0_ => absurd ((hoff 7 (by kernel_rfl)).symm.trans h0_) (by decide), fun h0_ => absurd ((hoff 10 (by kernel_rfl)).symm.trans h0_) (by decide), fun h0_ => absurd ((hoff 11 (by kernel_rfl)).symm.trans h0_) (by decide), z_BK936, Q_GW936, Q_GE936, Q_NB901_936, Q_NB936_901, Q_NB902_936, Q_NB936_902, Q_NB903_936, Q_NB936_903, z_BK937, Q_GW937, Q_GE937, Q_NB901_937, Q_NB937_901, Q_NB902_937, Q_NB937_902, Q_NB903_937, Q_NB937_903, fun h0_ => absurd ((hoff 14 (by kernel_rfl)).symm.trans h0_) (by decide), fun h0_ => absurd ((hoff 15 (by kernel_rfl)).symm.trans h0_) (by decide), fun _ => rfl, fun h0_ => absurd ((hoff 4 (by kernel_rfl)).symm.trans h0_) (by decide), fun h0_ => absurd ((hoff 7 (by kernel_rfl)).symm.trans h0_) (by decide), fun h0_ => absurd ((hoff 10 (by kernel_rfl)).symm.trans h0_) (by decide), fun h0_ => absurd ((hoff 11 (by kernel_rfl)).symm.trans h0_) (by decide), Q_X12_, Q_X13_⟩
     refine steps_cons ?_ ?_
     ·
      rintro b a w' ⟨v918, v922, v926, v930, v934, gb936, gb937, m3_, m4_, m7_, m10_, m11_, m12_, m13_, ha, Q_HO907, Q_HO911, Q_HO915, Q_BK901, Q_BK902, Q_BK903, Q_HB, Q_NB937_936, Q_NB936_937, Q_HO919, Q_HO923, Q_HO927, Q_HO931, Q_HO935, Q_BK936, Q_GW936, Q_GE936, Q_NB901_936, Q_NB936_901, Q_NB902_936, Q_NB936_902, Q_NB903_936, Q_NB936_903, Q_BK937, Q_GW937, Q_GE937, Q_NB901_937, Q_NB937_901, Q_NB902_937, Q_NB937_902, Q_NB903_937, Q_NB937_903, Q_BK936_e14, Q_BK937_e15, Q_X3_, Q_X4_, Q_X7_, Q_X10_, Q_X11_, Q_X12_, Q_X13_⟩ hb_ hon hoff
      refine ⟨_, rfl, fun K hK => ?_⟩
      have e15 : a.tmps[15]? = some (.agg #[.bool t904, .slice Ao30 t905.length co30]) := by rw [ha]; exact putSel_on (e := (0, 15, .agg #[.bool t904, .slice Ao30 t905.length co30])) 0 rfl rfl (hon 0 (by kernel_rfl)) rfl
      have e18 : a.tmps[18]? = some (m3_) := by rw [ha]; exact putSel_on (e := (3, 18, m3_)) 3 rfl rfl (hon 3 (by kernel_rfl)) rfl
      rw [Q_X3_ (hon 3 (by kernel_rfl))] at e18
      replace ha := am ha
      have HO907 := am Q_HO907
      have HO911 := am Q_HO911
      have HO915 := am Q_HO915
      have BK901 := am Q_BK901
      have BK902 := am Q_BK902
      have BK903 := am Q_BK903
      have HB := am Q_HB
      have HO919 := am (Q_HO919 (hon 3 (by kernel_rfl)))
      obtain ⟨Ao42, co42, eo42⟩ := Kd.R_slice HO919.out
      (subst eo42)
      refine goes_ Try.func23 (by kernel_rfl) rfl #[.agg #[.bool t904, .slice Ao30 t905.length co30], .agg #[.bool t916, .slice Ao42 t917.length co42]] (by rfl) rfl rfl (by (simp only [List.map_toArray, List.map_cons, List.map_nil, Act.eval, Array.getD_eq_getD_getElem?, Option.getD_some, e15, e18]; done)) ?_
      with_reducible refine (whole_Mul.calls k t904 _ _ t905 t916 _ _ t917 t920 t921 _ ?side1 ?side2 ?side3 ?side4 A8.out).mono ?_
      (case side1 => exact (Kd.R_reads' HO907.out).2.2)
      (case side2 => exact (Kd.R_reads' HO907.out).2.1)
      (case side3 => exact (Kd.R_reads' HO919.out).2.2)
      (case side4 => exact (Kd.R_reads' HO919.out).2.1)
      rintro e w43 ⟨v922, rfl, ho0, hb⟩
      refine ⟨_, rfl, ?_⟩
      have n0_ := am (Kd.R_elder' HO907.out (Kd.R_base ho0) hb)
      have n1_ := am (Kd.R_elder' HO911.out (Kd.R_base ho0) hb)
      have n2_ := am (Kd.R_elder' HO915.out (Kd.R_base ho0) hb)
      have n3_ := am (Kd.R_elder' HO919.out (Kd.R_base ho0) hb)
      have n4_ := am (Kd.R_lower (Kd.R_new' (Kd.R_new' (Kd.R_new' (Kd.R_new' ho0 (Kd.R_lt HO907.out)) (Kd.R_lt HO911.out)) (Kd.R_lt HO915.out)) (Kd.R_lt HO919.out)) (below_size HB.out))
      have n5_ := am (blk_below BK901.out hb)
      have n6_ := am (blk_below BK902.out hb)
      have n7_ := am (blk_below BK903.out hb)
      have n8_ := am (below_step HB.out hb)
      have z_BK936 := fun (h0_ : b 12 = true) (h1_ : b 14 = false) => (show w43.heap[gb936]? = some (.cells #[.bool false, .slice none 0 0] 25 (0, 0)) from by exact (blk_below (g := gb936) (o := .cells #[.bool false, .slice none 0 0] 25 (0, 0)) (by exact (Q_BK936 h0_ h1_)) hb))
      have z_BK937 := fun (h0_ : b 13 = true) (h1_ : b 15 = false) => (show w43.heap[gb937]? = some (.cells #[.bool false, .slice none 0 0] 25 (0, 0)) from by exact (blk_below (g := gb937) (o := .cells #[.bool false, .slice none 0 0] 25 (0, 0)) (by exact (Q_BK937 h0_ h1_)) hb))
      clear HO907
      clear HO911
      clear HO915
      clear HO919
      clear BK901
      clear BK902
      clear BK903
      clear HB
      have HO907 := n0_
      have HO911 := n1_
      have HO915 := n2_
      have HO919 := n3_
      have HO923 := n4_
      have BK901 := n5_
      have BK902 := n6_
      have BK903 := n7_
      have HB := n8_
      clear n0_ n1_ n2_ n3_ n4_ n5_ n6_ n7_ n8_
      try clear hb
      try clear ho0
      refine hK.out _ _ ⟨.slice Ao42 t917.length co42, v922, v926, v930, v934, gb936, gb937, m3_, (.agg #[.bool t920, v922]), m7_, m10_, m11_, m12_, m13_, (by rw [ha.out]; exact putSel_upk 4 hb_ rfl rfl rfl), (by exact Kd.R_mono HO907.out (fun _ hk => by grind)), (by exact Kd.R_mono HO911.out (fun _ hk => by grind)), (by exact Kd.R_mono HO915.out (fun _ hk => by grind)), BK901.out, BK902.out, BK903.out, HB.out, Q_NB937_936, Q_NB936_937, fun _ => (by exact Kd.R_mono HO919.out (fun _ hk => by grind)), fun _ => (by exact Kd.R_mono HO923.out (fun _ hk => by grind)), fun h0_ => absurd ((hoff 7 (by kernel_rfl)).symm.trans h0_) (by decide), fun h0_ => absurd ((hoff 10 (by kernel_rfl)).symm.trans h0_) (by decide), fun h0_ => absurd ((hoff 11 (by kernel_rfl)).symm.trans h0_) (by decide), z_BK936, Q_GW936, Q_GE936, Q_NB901_936, Q_NB936_901, Q_NB902_936, Q_NB936_902, Q_NB903_936, Q_NB936_903, z_BK937, Q_GW937, Q_GE937, Q_NB901_937, Q_NB937_901, Q_NB902_937, Q_NB937_902, Q_NB903_937, Q_NB937_903, fun h0_ => absurd ((hoff 14 (by kernel_rfl)).symm.trans h0_) (by decide), fun h0_ => absurd ((hoff 15 (by kernel_rfl)).symm.trans h0_) (by decide), Q_X3_, fun _ => rfl, fun h0_ => absurd ((hoff 7 (by kernel_rfl)).symm.trans h0_) (by decide), fun h0_ => absurd ((hoff 10 (by kernel_rfl)).symm.trans h0_) (by decide), fun h0_ => absurd ((hoff 11 (by kernel_rfl)).symm.trans h0_) (by decide), Q_X12_, Q_X13_⟩
     refine steps_cons ?_ ?_
     ·
      rintro b a w' ⟨v918, v922, v926, v930, v934, gb936, gb937, m3_, m4_, m7_, m10_, m11_, m12_, m13_, ha, Q_HO907, Q_HO911, Q_HO915, Q_BK901, Q_BK902, Q_BK903, Q_HB, Q_NB937_936, Q_NB936_937, Q_HO919, Q_HO923, Q_HO927, Q_HO931, Q_HO935, Q_BK936, Q_GW936, Q_GE936, Q_NB901_936, Q_NB936_901, Q_NB902_936, Q_NB936_902, Q_NB903_936, Q_NB936_903, Q_BK937, Q_GW937, Q_GE937, Q_NB901_937, Q_NB937_901, Q_NB902_937, Q_NB937_902, Q_NB903_937, Q_NB937_903, Q_BK936_e14, Q_BK937_e15, Q_X3_, Q_X4_, Q_X7_, Q_X10_, Q_X11_, Q_X12_, Q_X13_⟩ hb_ hon hoff
      refine ⟨_, rfl, fun K hK => ?_⟩
      have e3 : a.tmps[3]? = some (.pointer (some ⟨gb901, 0, none⟩)) := by rw [ha]; exact (putSel_off rfl).trans rfl
      replace ha := am ha
      have HO907 := am Q_HO907
      have HO911 := am Q_HO911
      have HO915 := am Q_HO915
      have BK901 := am Q_BK901
      have BK902 := am Q_BK902
      have BK903 := am Q_BK903
      have HB := am Q_HB
      have hc0_ : w'.cell? ⟨gb901, 0, none⟩ = some (.bool t904) := (blk_cell BK901.out 0).trans rfl
      have hc1_ : w'.cell? ⟨gb901, 1, none⟩ = some (.slice Ao30 t905.length co30) := (blk_cell BK901.out 1).trans rfl
      refine value_ (w1 := w') (v := .agg #[.bool t904, .slice Ao30 t905.length co30]) (by rfl) rfl ?_ ?_
      ·
       go_simp
      refine hK.out _ _ ⟨v918, v922, v926, v930, v934, gb936, gb937, m3_, m4_, m7_, m10_, m11_, m12_, m13_, (by rw [ha.out]; exact putSel_upk 5 hb_ rfl rfl rfl), Q_HO907, Q_HO911, Q_HO915, Q_BK901, Q_BK902, Q_BK903, Q_HB, Q_NB937_936, Q_NB936_937, Q_HO919, Q_HO923, fun h0_ => absurd ((hoff 7 (by kernel_rfl)).symm.trans h0_) (by decide), fun h0_ => absurd ((hoff 10 (by kernel_rfl)).symm.trans h0_) (by decide), fun h0_ => absurd ((hoff 11 (by kernel_rfl)).symm.trans h0_) (by decide), Q_BK936, Q_GW936, Q_GE936, Q_NB901_936, Q_NB936_901, Q_NB902_936, Q_NB936_902, Q_NB903_936, Q_NB936_903, Q_BK937, Q_GW937, Q_GE937, Q_NB901_937, Q_NB937_901, Q_NB902_937, Q_NB937_902, Q_NB903_937, Q_NB937_903, fun h0_ => absurd ((hoff 14 (by kernel_rfl)).symm.trans h0_) (by decide), fun h0_ => absurd ((hoff 15 (by kernel_rfl)).symm.trans h0_) (by decide), Q_X3_, Q_X4_, fun h0_ => absurd ((hoff 7 (by kernel_rfl)).symm.trans h0_) (by decide), fun h0_ => absurd ((hoff 10 (by kernel_rfl)).symm.trans h0_) (by decide), fun h0_ => absurd ((hoff 11 (by kernel_rfl)).symm.trans h0_) (by decide), Q_X12_, Q_X13_⟩
     refine steps_cons ?_ ?_
     ·
      rintro b a w' ⟨v918, v922, v926, v930, v934, gb936, gb937, m3_, m4_, m7_, m10_, m11_, m12_, m13_, ha, Q_HO907, Q_HO911, Q_HO915, Q_BK901, Q_BK902, Q_BK903, Q_HB, Q_NB937_936, Q_NB936_937, Q_HO919, Q_HO923, Q_HO927, Q_HO931, Q_HO935, Q_BK936, Q_GW936, Q_GE936, Q_NB901_936, Q_NB936_901, Q_NB902_936, Q_NB936_902, Q_NB903_936, Q_NB936_903, Q_BK937, Q_GW937, Q_GE937, Q_NB901_937, Q_NB937_901, Q_NB902_937, Q_NB937_902, Q_NB903_937, Q_NB937_903, Q_BK936_e14, Q_BK937_e15, Q_X3_, Q_X4_, Q_X7_, Q_X10_, Q_X11_, Q_X12_, Q_X13_⟩ hb_ hon hoff
      refine ⟨_, rfl, fun K hK => ?_⟩
      have e4 : a.tmps[4]? = some (.pointer (some ⟨gb902, 0, none⟩)) := by rw [ha]; exact (putSel_off rfl).trans rfl
      replace ha := am ha
      have HO907 := am Q_HO907
      have HO911 := am Q_HO911
      have HO915 := am Q_HO915
      have BK901 := am Q_BK901
      have BK902 := am Q_BK902
      have BK903 := am Q_BK903
      have HB := am Q_HB
      have hc0_ : w'.cell? ⟨gb902, 0, none⟩ = some (.bool t908) := (blk_cell BK902.out 0).trans rfl
      have hc1_ : w'.cell? ⟨gb902, 1, none⟩ = some (.slice Ao33 t909.length co33) := (blk_cell BK902.out 1).trans rfl
      refine value_ (w1 := w') (v := .agg #[.bool t908, .slice Ao33 t909.length co33]) (by rfl) rfl ?_ ?_
      ·
       go_simp
      refine hK.out _ _ ⟨v918, v922, v926, v930, v934, gb936, gb937, m3_, m4_, m7_, m10_, m11_, m12_, m13_, (by rw [ha.out]; exact putSel_upk 6 hb_ rfl rfl rfl), Q_HO907, Q_HO911, Q_HO915, Q_BK901, Q_BK902, Q_BK903, Q_HB, Q_NB937_936, Q_NB936_937, Q_HO919, Q_HO923, fun h0_ => absurd ((hoff 7 (by kernel_rfl)).symm.trans h0_) (by decide), fun h0_ => absurd ((hoff 10 (by kernel_rfl)).symm.trans h0_) (by decide), fun h0_ => absurd ((hoff 11 (by kernel_rfl)).symm.trans h0_) (by decide), Q_BK936, Q_GW936, Q_GE936, Q_NB901_936, Q_NB936_901, Q_NB902_936, Q_NB936_902, Q_NB903_936, Q_NB936_903, Q_BK937, Q_GW937, Q_GE937, Q_NB901_937, Q_NB937_901, Q_NB902_937, Q_NB937_902, Q_NB903_937, Q_NB937_903, fun h0_ => absurd ((hoff 14 (by kernel_rfl)).symm.trans h0_) (by decide), fun h0_ => absurd ((hoff 15 (by kernel_rfl)).symm.trans h0_) (by decide), Q_X3_, Q_X4_, fun h0_ => absurd ((hoff 7 (by kernel_rfl)).symm.trans h0_) (by decide), fun h0_ => absurd ((hoff 10 (by kernel_rfl)).symm.trans h0_) (by decide), fun h0_ => absurd ((hoff 11 (by kernel_rfl)).symm.trans h0_) (by decide), Q_X12_, Q_X13_⟩
     refine steps_cons ?_ ?_
     ·
      rintro b a w' ⟨v918, v922, v926, v930, v934, gb936, gb937, m3_, m4_, m7_, m10_, m11_, m12_, m13_, ha, Q_HO907, Q_HO911, Q_HO915, Q_BK901, Q_BK902, Q_BK903, Q_HB, Q_NB937_936, Q_NB936_937, Q_HO919, Q_HO923, Q_HO927, Q_HO931, Q_HO935, Q_BK936, Q_GW936, Q_GE936, Q_NB901_936, Q_NB936_901, Q_NB902_936, Q_NB936_902, Q_NB903_936, Q_NB936_903, Q_BK937, Q_GW937, Q_GE937, Q_NB901_937, Q_NB937_901, Q_NB902_937, Q_NB937_902, Q_NB903_937, Q_NB937_903, Q_BK936_e14, Q_BK937_e15, Q_X3_, Q_X4_, Q_X7_, Q_X10_, Q_X11_, Q_X12_, Q_X13_⟩ hb_ hon hoff
      refine ⟨_, rfl, fun K hK => ?_⟩
      have e20 : a.tmps[20]? = some (.agg #[.bool t904, .slice Ao30 t905.length co30]) := by rw [ha]; exact putSel_on (e := (5, 20, .agg #[.bool t904, .slice Ao30 t905.length co30])) 5 rfl rfl (hon 5 (by kernel_rfl)) rfl
      have e21 : a.tmps[21]? = some (.agg #[.bool t908, .slice Ao33 t909.length co33]) := by rw [ha]; exact putSel_on (e := (6, 21, .agg #[.bool t908, .slice Ao33 t909.length co33])) 6 rfl rfl (hon 6 (by kernel_rfl)) rfl
      replace ha := am ha
      have HO907 := am Q_HO907
      have HO911 := am Q_HO911
      have HO915 := am Q_HO915
      have BK901 := am Q_BK901
      have BK902 := am Q_BK902
      have BK903 := am Q_BK903
      have HB := am Q_HB
      have HO919 := am (Q_HO919 (hon 3 (by kernel_rfl)))
      have HO923 := am (Q_HO923 (hon 4 (by kernel_rfl)))
      refine goes_ Try.func23 (by kernel_rfl) rfl #[.agg #[.bool t904, .slice Ao30 t905.length co30], .agg #[.bool t908, .slice Ao33 t909.length co33]] (by rfl) rfl rfl (by (simp only [List.map_toArray, List.map_cons, List.map_nil, Act.eval, Array.getD_eq_getD_getElem?, Option.getD_some, e20, e21]; done)) ?_
      with_reducible refine (whole_Mul.calls k t904 _ _ t905 t908 _ _ t909 t924 t925 _ ?side1 ?side2 ?side3 ?side4 A9.out).mono ?_
      (case side1 => exact (Kd.R_reads' HO907.out).2.2)
      (case side2 => exact (Kd.R_reads' HO907.out).2.1)
      (case side3 => exact (Kd.R_reads' HO911.out).2.2)
      (case side4 => exact (Kd.R_reads' HO911.out).2.1)
      rintro e w44 ⟨v926, rfl, ho0, hb⟩
      refine ⟨_, rfl, ?_⟩
      have n0_ := am (Kd.R_elder' HO907.out (Kd.R_base ho0) hb)
      have n1_ := am (Kd.R_elder' HO911.out (Kd.R_base ho0) hb)
      have n2_ := am (Kd.R_elder' HO915.out (Kd.R_base ho0) hb)
      have n3_ := am (Kd.R_elder' HO919.out (Kd.R_base ho0) hb)
      have n4_ := am (Kd.R_elder' HO923.out (Kd.R_base ho0) hb)
      have n5_ := am (Kd.R_lower (Kd.R_new' (Kd.R_new' (Kd.R_new' (Kd.R_new' (Kd.R_new' ho0 (Kd.R_lt HO907.out)) (Kd.R_lt HO911.out)) (Kd.R_lt HO915.out)) (Kd.R_lt HO919.out)) (Kd.R_lt HO923.out)) (below_size HB.out))
      have n6_ := am (blk_below BK901.out hb)
      have n7_ := am (blk_below BK902.out hb)
      have n8_ := am (blk_below BK903.out hb)
      have n9_ := am (below_step HB.out hb)
      have z_BK936 := fun (h0_ : b 12 = true) (h1_ : b 14 = false) => (show w44.heap[gb936]? = some (.cells #[.bool false, .slice none 0 0] 25 (0, 0)) from by exact (blk_below (g := gb936) (o := .cells #[.bool false, .slice none 0 0] 25 (0, 0)) (by exact (Q_BK936 h0_ h1_)) hb))
      have z_BK937 := fun (h0_ : b 13 = true) (h1_ : b 15 = false) => (show w44.heap[gb937]? = some (.cells #[.bool false, .slice none 0 0] 25 (0, 0)) from by exact (blk_below (g := gb937) (o := .cells #[.bool false, .slice none 0 0] 25 (0, 0)) (by exact (Q_BK937 h0_ h1_)) hb))
      clear HO907
      clear HO911
      clear HO915
      clear HO919
      clear HO923
      clear BK901
      clear BK902
      clear BK903
      clear HB
      have HO907 := n0_
      have HO911 := n1_
      have HO915 := n2_
      have HO919 := n3_
      have HO923 := n4_
      have HO927 := n5_
      have BK901 := n6_
      have BK902 := n7_
      have BK903 := n8_
      have HB := n9_
      clear n0_ n1_ n2_ n3_ n4_ n5_ n6_ n7_ n8_ n9_
      try clear hb
      try clear ho0
      refine hK.out _ _ ⟨v918, v922, v926, v930, v934, gb936, gb937, m3_, m4_, (.agg #[.bool t924, v926]), m10_, m11_, m12_, m13_, (by rw [ha.out]; exact putSel_upk 7 hb_ rfl rfl rfl), (by exact Kd.R_mono HO907.out (fun _ hk => by grind)), (by exact Kd.R_mono HO911.out (fun _ hk => by grind)), (by exact Kd.R_mono HO915.out (fun _ hk => by grind)), BK901.out, BK902.out, BK903.out, HB.out, Q_NB937_936, Q_NB936_937, fun _ => (by exact Kd.R_mono HO919.out (fun _ hk => by grind)), fun _ => (by exact Kd.R_mono HO923.out (fun _ hk => by grind)), fun _ => (by exact Kd.R_mono HO927.out (fun _ hk => by grind)), fun h0_ => absurd ((hoff 10 (by kernel_rfl)).symm.trans h0_) (by decide), fun h0_ => absurd ((hoff 11 (by kernel_rfl)).symm.trans h0_) (by decide), z_BK936, Q_GW936, Q_GE936, Q_NB901_936, Q_NB936_901, Q_NB902_936, Q_NB936_902, Q_NB903_936, Q_NB936_903, z_BK937, Q_GW937, Q_GE937, Q_NB901_937, Q_NB937_901, Q_NB902_937, Q_NB937_902, Q_NB903_937, Q_NB937_903, fun h0_ => absurd ((hoff 14 (by kernel_rfl)).symm.trans h0_) (by decide), fun h0_ => absurd ((hoff 15 (by kernel_rfl)).symm.trans h0_) (by decide), Q_X3_, Q_X4_, fun _ => rfl, fun h0_ => absurd ((hoff 10 (by kernel_rfl)).symm.trans h0_) (by decide), fun h0_ => absurd ((hoff 11 (by kernel_rfl)).symm.trans h0_) (by decide), Q_X12_, Q_X13_⟩
     refine steps_cons ?_ ?_
     ·
      rintro b a w' ⟨v918, v922, v926, v930, v934, gb936, gb937, m3_, m4_, m7_, m10_, m11_, m12_, m13_, ha, Q_HO907, Q_HO911, Q_HO915, Q_BK901, Q_BK902, Q_BK903, Q_HB, Q_NB937_936, Q_NB936_937, Q_HO919, Q_HO923, Q_HO927, Q_HO931, Q_HO935, Q_BK936, Q_GW936, Q_GE936, Q_NB901_936, Q_NB936_901, Q_NB902_936, Q_NB936_902, Q_NB903_936, Q_NB936_903, Q_BK937, Q_GW937, Q_GE937, Q_NB901_937, Q_NB937_901, Q_NB902_937, Q_NB937_902, Q_NB903_937, Q_NB937_903, Q_BK936_e14, Q_BK937_e15, Q_X3_, Q_X4_, Q_X7_, Q_X10_, Q_X11_, Q_X12_, Q_X13_⟩ hb_ hon hoff
      refine ⟨_, rfl, fun K hK => ?_⟩
      have e3 : a.tmps[3]? = some (.pointer (some ⟨gb901, 0, none⟩)) := by rw [ha]; exact (putSel_off rfl).trans rfl
      replace ha := am ha
      have HO907 := am Q_HO907
      have HO911 := am Q_HO911
      have HO915 := am Q_HO915
      have BK901 := am Q_BK901
      have BK902 := am Q_BK902
      have BK903 := am Q_BK903
      have HB := am Q_HB
      have hc0_ : w'.cell? ⟨gb901, 0, none⟩ = some (.bool t904) := (blk_cell BK901.out 0).trans rfl
      have hc1_ : w'.cell? ⟨gb901, 1, none⟩ = some (.slice Ao30 t905.length co30) := (blk_cell BK901.out 1).trans rfl
      refine value_ (w1 := w') (v := .agg #[.bool t904, .slice Ao30 t905.length co30]) (by rfl) rfl ?_ ?_
      ·
       go_simp
      refine hK.out _ _ ⟨v918, v922, v926, v930, v934, gb936, gb937, m3_, m4_, m7_, m10_, m11_, m12_, m13_, (by rw [ha.out]; exact putSel_upk 8 hb_ rfl rfl rfl), Q_HO907, Q_HO911, Q_HO915, Q_BK901, Q_BK902, Q_BK903, Q_HB, Q_NB937_936, Q_NB936_937, Q_HO919, Q_HO923, Q_HO927, fun h0_ => absurd ((hoff 10 (by kernel_rfl)).symm.trans h0_) (by decide), fun h0_ => absurd ((hoff 11 (by kernel_rfl)).symm.trans h0_) (by decide), Q_BK936, Q_GW936, Q_GE936, Q_NB901_936, Q_NB936_901, Q_NB902_936, Q_NB936_902, Q_NB903_936, Q_NB936_903, Q_BK937, Q_GW937, Q_GE937, Q_NB901_937, Q_NB937_901, Q_NB902_937, Q_NB937_902, Q_NB903_937, Q_NB937_903, fun h0_ => absurd ((hoff 14 (by kernel_rfl)).symm.trans h0_) (by decide), fun h0_ => absurd ((hoff 15 (by kernel_rfl)).symm.trans h0_) (by decide), Q_X3_, Q_X4_, Q_X7_, fun h0_ => absurd ((hoff 10 (by kernel_rfl)).symm.trans h0_) (by decide), fun h0_ => absurd ((hoff 11 (by kernel_rfl)).symm.trans h0_) (by decide), Q_X12_, Q_X13_⟩
     refine steps_cons ?_ ?_
     ·
      rintro b a w' ⟨v918, v922, v926, v930, v934, gb936, gb937, m3_, m4_, m7_, m10_, m11_, m12_, m13_, ha, Q_HO907, Q_HO911, Q_HO915, Q_BK901, Q_BK902, Q_BK903, Q_HB, Q_NB937_936, Q_NB936_937, Q_HO919, Q_HO923, Q_HO927, Q_HO931, Q_HO935, Q_BK936, Q_GW936, Q_GE936, Q_NB901_936, Q_NB936_901, Q_NB902_936, Q_NB936_902, Q_NB903_936, Q_NB936_903, Q_BK937, Q_GW937, Q_GE937, Q_NB901_937, Q_NB937_901, Q_NB902_937, Q_NB937_902, Q_NB903_937, Q_NB937_903, Q_BK936_e14, Q_BK937_e15, Q_X3_, Q_X4_, Q_X7_, Q_X10_, Q_X11_, Q_X12_, Q_X13_⟩ hb_ hon hoff
      refine ⟨_, rfl, fun K hK => ?_⟩
      have e5 : a.tmps[5]? = some (.pointer (some ⟨gb903, 0, none⟩)) := by rw [ha]; exact (putSel_off rfl).trans rfl
      replace ha := am ha
      have HO907 := am Q_HO907
      have HO911 := am Q_HO911
      have HO915 := am Q_HO915
      have BK901 := am Q_BK901
      have BK902 := am Q_BK902
      have BK903 := am Q_BK903
      have HB := am Q_HB
      have hc0_ : w'.cell? ⟨gb903, 0, none⟩ = some (.bool t912) := (blk_cell BK903.out 0).trans rfl
      have hc1_ : w'.cell? ⟨gb903, 1, none⟩ = some (.slice Ao36 t913.length co36) := (blk_cell BK903.out 1).trans rfl
      refine value_ (w1 := w') (v := .agg #[.bool t912, .slice Ao36 t913.length co36]) (by rfl) rfl ?_ ?_
      ·
       go_simp
      refine hK.out _ _ ⟨v918, v922, v926, v930, v934, gb936, gb937, m3_, m4_, m7_, m10_, m11_, m12_, m13_, (by rw [ha.out]; exact putSel_upk 9 hb_ rfl rfl rfl), Q_HO907, Q_HO911, Q_HO915, Q_BK901, Q_BK902, Q_BK903, Q_HB, Q_NB937_936, Q_NB936_937, Q_HO919, Q_HO923, Q_HO927, fun h0_ => absurd ((hoff 10 (by kernel_rfl)).symm.trans h0_) (by decide), fun h0_ => absurd ((hoff 11 (by kernel_rfl)).symm.trans h0_) (by decide), Q_BK936, Q_GW936, Q_GE936, Q_NB901_936, Q_NB936_901, Q_NB902_936, Q_NB936_902, Q_NB903_936, Q_NB936_903, Q_BK937, Q_GW937, Q_GE937, Q_NB901_937, Q_NB937_901, Q_NB902_937, Q_NB937_902, Q_NB903_937, Q_NB937_903, fun h0_ => absurd ((hoff 14 (by kernel_rfl)).symm.trans h0_) (by decide), fun h0_ => absurd ((hoff 15 (by kernel_rfl)).symm.trans h0_) (by decide), Q_X3_, Q_X4_, Q_X7_, fun h0_ => absurd ((hoff 10 (by kernel_rfl)).symm.trans h0_) (by decide), fun h0_ => absurd ((hoff 11 (by kernel_rfl)).symm.trans h0_) (by decide), Q_X12_, Q_X13_⟩
     refine steps_cons ?_ ?_
     ·
      rintro b a w' ⟨v918, v922, v926, v930, v934, gb936, gb937, m3_, m4_, m7_, m10_, m11_, m12_, m13_, ha, Q_HO907, Q_HO911, Q_HO915, Q_BK901, Q_BK902, Q_BK903, Q_HB, Q_NB937_936, Q_NB936_937, Q_HO919, Q_HO923, Q_HO927, Q_HO931, Q_HO935, Q_BK936, Q_GW936, Q_GE936, Q_NB901_936, Q_NB936_901, Q_NB902_936, Q_NB936_902, Q_NB903_936, Q_NB936_903, Q_BK937, Q_GW937, Q_GE937, Q_NB901_937, Q_NB937_901, Q_NB902_937, Q_NB937_902, Q_NB903_937, Q_NB937_903, Q_BK936_e14, Q_BK937_e15, Q_X3_, Q_X4_, Q_X7_, Q_X10_, Q_X11_, Q_X12_, Q_X13_⟩ hb_ hon hoff
      refine ⟨_, rfl, fun K hK => ?_⟩
      have e23 : a.tmps[23]? = some (.agg #[.bool t904, .slice Ao30 t905.length co30]) := by rw [ha]; exact putSel_on (e := (8, 23, .agg #[.bool t904, .slice Ao30 t905.length co30])) 8 rfl rfl (hon 8 (by kernel_rfl)) rfl
      have e24 : a.tmps[24]? = some (.agg #[.bool t912, .slice Ao36 t913.length co36]) := by rw [ha]; exact putSel_on (e := (9, 24, .agg #[.bool t912, .slice Ao36 t913.length co36])) 9 rfl rfl (hon 9 (by kernel_rfl)) rfl
      replace ha := am ha
      have HO907 := am Q_HO907
      have HO911 := am Q_HO911
      have HO915 := am Q_HO915
      have BK901 := am Q_BK901
      have BK902 := am Q_BK902
      have BK903 := am Q_BK903
      have HB := am Q_HB
      have HO919 := am (Q_HO919 (hon 3 (by kernel_rfl)))
      have HO923 := am (Q_HO923 (hon 4 (by kernel_rfl)))
      have HO927 := am (Q_HO927 (hon 7 (by kernel_rfl)))
      refine goes_ Try.func23 (by kernel_rfl) rfl #[.agg #[.bool t904, .slice Ao30 t905.length co30], .agg #[.bool t912, .slice Ao36 t913.length co36]] (by rfl) rfl rfl (by (simp only [List.map_toArray, List.map_cons, List.map_nil, Act.eval, Array.getD_eq_getD_getElem?, Option.getD_some, e23, e24]; done)) ?_
      with_reducible refine (whole_Mul.calls k t904 _ _ t905 t912 _ _ t913 t928 t929 _ ?side1 ?side2 ?side3 ?side4 A10.out).mono ?_
      (case side1 => exact (Kd.R_reads' HO907.out).2.2)
      (case side2 => exact (Kd.R_reads' HO907.out).2.1)
      (case side3 => exact (Kd.R_reads' HO915.out).2.2)
      (case side4 => exact (Kd.R_reads' HO915.out).2.1)
      rintro e w45 ⟨v930, rfl, ho0, hb⟩
      refine ⟨_, rfl, ?_⟩
      have n0_ := am (Kd.R_elder' HO907.out (Kd.R_base ho0) hb)
      have n1_ := am (Kd.R_elder' HO911.out (Kd.R_base ho0) hb)
      have n2_ := am (Kd.R_elder' HO915.out (Kd.R_base ho0) hb)
      have n3_ := am (Kd.R_elder' HO919.out (Kd.R_base ho0) hb)
      have n4_ := am (Kd.R_elder' HO923.out (Kd.R_base ho0) hb)
      have n5_ := am (Kd.R_elder' HO927.out (Kd.R_base ho0) hb)
      have n6_ := am (Kd.R_lower (Kd.R_new' (Kd.R_new' (Kd.R_new' (Kd.R_new' (Kd.R_new' (Kd.R_new' ho0 (Kd.R_lt HO907.out)) (Kd.R_lt HO911.out)) (Kd.R_lt HO915.out)) (Kd.R_lt HO919.out)) (Kd.R_lt HO923.out)) (Kd.R_lt HO927.out)) (below_size HB.out))
      have n7_ := am (blk_below BK901.out hb)
      have n8_ := am (blk_below BK902.out hb)
      have n9_ := am (blk_below BK903.out hb)
      have n10_ := am (below_step HB.out hb)
      have z_BK936 := fun (h0_ : b 12 = true) (h1_ : b 14 = false) => (show w45.heap[gb936]? = some (.cells #[.bool false, .slice none 0 0] 25 (0, 0)) from by exact (blk_below (g := gb936) (o := .cells #[.bool false, .slice none 0 0] 25 (0, 0)) (by exact (Q_BK936 h0_ h1_)) hb))
      have z_BK937 := fun (h0_ : b 13 = true) (h1_ : b 15 = false) => (show w45.heap[gb937]? = some (.cells #[.bool false, .slice none 0 0] 25 (0, 0)) from by exact (blk_below (g := gb937) (o := .cells #[.bool false, .slice none 0 0] 25 (0, 0)) (by exact (Q_BK937 h0_ h1_)) hb))
      clear HO907
      clear HO911
      clear HO915
      clear HO919
      clear HO923
      clear HO927
      clear BK901
      clear BK902
      clear BK903
      clear HB
      have HO907 := n0_
      have HO911 := n1_
      have HO915 := n2_
      have HO919 := n3_
      have HO923 := n4_
      have HO927 := n5_
      have HO931 := n6_
      have BK901 := n7_
      have BK902 := n8_
      have BK903 := n9_
      have HB := n10_
      clear n0_ n1_ n2_ n3_ n4_ n5_ n6_ n7_ n8_ n9_ n10_
      try clear hb
      try clear ho0
      refine hK.out _ _ ⟨v918, v922, v926, v930, v934, gb936, gb937, m3_, m4_, m7_, (.agg #[.bool t928, v930]), m11_, m12_, m13_, (by rw [ha.out]; exact putSel_upk 10 hb_ rfl rfl rfl), (by exact Kd.R_mono HO907.out (fun _ hk => by grind)), (by exact Kd.R_mono HO911.out (fun _ hk => by grind)), (by exact Kd.R_mono HO915.out (fun _ hk => by grind)), BK901.out, BK902.out, BK903.out, HB.out, Q_NB937_936, Q_NB936_937, fun _ => (by exact Kd.R_mono HO919.out (fun _ hk => by grind)), fun _ => (by exact Kd.R_mono HO923.out (fun _ hk => by grind)), fun _ => (by exact Kd.R_mono HO927.out (fun _ hk => by grind)), fun _ => (by exact Kd.R_mono HO931.out (fun _ hk => by grind)), fun h0_ => absurd ((hoff 11 (by kernel_rfl)).symm.trans h0_) (by decide), z_BK936, Q_GW936, Q_GE936, Q_NB901_936, Q_NB936_901, Q_NB902_936, Q_NB936_902, Q_NB903_936, Q_NB936_903, z_BK937, Q_GW937, Q_GE937, Q_NB901_937, Q_NB937_901, Q_NB902_937, Q_NB937_902, Q_NB903_937, Q_NB937_903, fun h0_ => absurd ((hoff 14 (by kernel_rfl)).symm.trans h0_) (by decide), fun h0_ => absurd ((hoff 15 (by kernel_rfl)).symm.trans h0_) (by decide), Q_X3_, Q_X4_, Q_X7_, fun _ => rfl, fun h0_ => absurd ((hoff 11 (by kernel_rfl)).symm.trans h0_) (by decide), Q_X12_, Q_X13_⟩
     refine steps_cons ?_ ?_
     ·
      rintro b a w' ⟨v918, v922, v926, v930, v934, gb936, gb937, m3_, m4_, m7_, m10_, m11_, m12_, m13_, ha, Q_HO907, Q_HO911, Q_HO915, Q_BK901, Q_BK902, Q_BK903, Q_HB, Q_NB937_936, Q_NB936_937, Q_HO919, Q_HO923, Q_HO927, Q_HO931, Q_HO935, Q_BK936, Q_GW936, Q_GE936, Q_NB901_936, Q_NB936_901, Q_NB902_936, Q_NB936_902, Q_NB903_936, Q_NB936_903, Q_BK937, Q_GW937, Q_GE937, Q_NB901_937, Q_NB937_901, Q_NB902_937, Q_NB937_902, Q_NB903_937, Q_NB937_903, Q_BK936_e14, Q_BK937_e15, Q_X3_, Q_X4_, Q_X7_, Q_X10_, Q_X11_, Q_X12_, Q_X13_⟩ hb_ hon hoff
      refine ⟨_, rfl, fun K hK => ?_⟩
      have e22 : a.tmps[22]? = some (m7_) := by rw [ha]; exact putSel_on (e := (7, 22, m7_)) 7 rfl rfl (hon 7 (by kernel_rfl)) rfl
      rw [Q_X7_ (hon 7 (by kernel_rfl))] at e22
      have e25 : a.tmps[25]? = some (m10_) := by rw [ha]; exact putSel_on (e := (10, 25, m10_)) 10 rfl rfl (hon 10 (by kernel_rfl)) rfl
      rw [Q_X10_ (hon 10 (by kernel_rfl))] at e25
      replace ha := am ha
      have HO907 := am Q_HO907
      have HO911 := am Q_HO911
      have HO915 := am Q_HO915
      have BK901 := am Q_BK901
      have BK902 := am Q_BK902
      have BK903 := am Q_BK903
      have HB := am Q_HB
      have HO919 := am (Q_HO919 (hon 3 (by kernel_rfl)))
      have HO923 := am (Q_HO923 (hon 4 (by kernel_rfl)))
      have HO927 := am (Q_HO927 (hon 7 (by kernel_rfl)))
      have HO931 := am (Q_HO931 (hon 10 (by kernel_rfl)))
      obtain ⟨Ao46, co46, eo46⟩ := Kd.R_slice HO927.out
      (subst eo46)
      obtain ⟨Ao47, co47, eo47⟩ := Kd.R_slice HO931.out
      (subst eo47)
      refine goes_ Try.func19 (by kernel_rfl) rfl #[.agg #[.bool t924, .slice Ao46 t925.length co46], .agg #[.bool t928, .slice Ao47 t929.length co47]] (by rfl) rfl rfl (by (simp only [List.map_toArray, List.map_cons, List.map_nil, Act.eval, Array.getD_eq_getD_getElem?, Option.getD_some, e22, e25]; done)) ?_
      with_reducible refine (whole_Add.calls k t924 _ _ t925 t928 _ _ t929 t932 t933 _ ?side1 ?side2 ?side3 ?side4 A11.out).mono ?_
      (case side1 => exact (Kd.R_reads' HO927.out).2.2)
      (case side2 => exact (Kd.R_reads' HO927.out).2.1)
      (case side3 => exact (Kd.R_reads' HO931.out).2.2)
      (case side4 => exact (Kd.R_reads' HO931.out).2.1)
      rintro e w48 ⟨v934, rfl, ho0, hb⟩
      refine ⟨_, rfl, ?_⟩
      have n0_ := am (Kd.R_elder' HO907.out (Kd.R_base ho0) hb)
      have n1_ := am (Kd.R_elder' HO911.out (Kd.R_base ho0) hb)
      have n2_ := am (Kd.R_elder' HO915.out (Kd.R_base ho0) hb)
      have n3_ := am (Kd.R_elder' HO919.out (Kd.R_base ho0) hb)
      have n4_ := am (Kd.R_elder' HO923.out (Kd.R_base ho0) hb)
      have n5_ := am (Kd.R_elder' HO927.out (Kd.R_base ho0) hb)
      have n6_ := am (Kd.R_elder' HO931.out (Kd.R_base ho0) hb)
      have n7_ := am (Kd.R_lower (Kd.R_new' (Kd.R_new' (Kd.R_new' (Kd.R_new' (Kd.R_new' (Kd.R_new' (Kd.R_new' ho0 (Kd.R_lt HO907.out)) (Kd.R_lt HO911.out)) (Kd.R_lt HO915.out)) (Kd.R_lt HO919.out)) (Kd.R_lt HO923.out)) (Kd.R_lt HO927.out)) (Kd.R_lt HO931.out)) (below_size HB.out))
      have n8_ := am (blk_below BK901.out hb)
      have n9_ := am (blk_below BK902.out hb)
      have n10_ := am (blk_below BK903.out hb)
      have n11_ := am (below_step HB.out hb)
      have z_BK936 := fun (h0_ : b 12 = true) (h1_ : b 14 = false) => (show w48.heap[gb936]? = some (.cells #[.bool false, .slice none 0 0] 25 (0, 0)) from by exact (blk_below (g := gb936) (o := .cells #[.bool false, .slice none 0 0] 25 (0, 0)) (by exact (Q_BK936 h0_ h1_)) hb))
      have z_BK937 := fun (h0_ : b 13 = true) (h1_ : b 15 = false) => (show w48.heap[gb937]? = some (.cells #[.bool false, .slice none 0 0] 25 (0, 0)) from by exact (blk_below (g := gb937) (o := .cells #[.bool false, .slice none 0 0] 25 (0, 0)) (by exact (Q_BK937 h0_ h1_)) hb))
      clear HO907
      clear HO911
      clear HO915
      clear HO919
      clear HO923
      clear HO927
      clear HO931
      clear BK901
      clear BK902
      clear BK903
      clear HB
      have HO907 := n0_
      have HO911 := n1_
      have HO915 := n2_
      have HO919 := n3_
      have HO923 := n4_
      have HO927 := n5_
      have HO931 := n6_
      have HO935 := n7_
      have BK901 := n8_
      have BK902 := n9_
      have BK903 := n10_
      have HB := n11_
      clear n0_ n1_ n2_ n3_ n4_ n5_ n6_ n7_ n8_ n9_ n10_ n11_
      try clear hb
      try clear ho0
      refine hK.out _ _ ⟨v918, v922, .slice Ao46 t925.length co46, .slice Ao47 t929.length co47, v934, gb936, gb937, m3_, m4_, m7_, m10_, (.agg #[.bool t932, v934]), m12_, m13_, (by rw [ha.out]; exact putSel_upk 11 hb_ rfl rfl rfl), (by exact Kd.R_mono HO907.out (fun _ hk => by grind)), (by exact Kd.R_mono HO911.out (fun _ hk => by grind)), (by exact Kd.R_mono HO915.out (fun _ hk => by grind)), BK901.out, BK902.out, BK903.out, HB.out, Q_NB937_936, Q_NB936_937, fun _ => (by exact Kd.R_mono HO919.out (fun _ hk => by grind)), fun _ => (by exact Kd.R_mono HO923.out (fun _ hk => by grind)), fun _ => (by exact Kd.R_mono HO927.out (fun _ hk => by grind)), fun _ => (by exact Kd.R_mono HO931.out (fun _ hk => by grind)), fun _ => (by exact Kd.R_mono HO935.out (fun _ hk => by grind)), z_BK936, Q_GW936, Q_GE936, Q_NB901_936, Q_NB936_901, Q_NB902_936, Q_NB936_902, Q_NB903_936, Q_NB936_903, z_BK937, Q_GW937, Q_GE937, Q_NB901_937, Q_NB937_901, Q_NB902_937, Q_NB937_902, Q_NB903_937, Q_NB937_903, fun h0_ => absurd ((hoff 14 (by kernel_rfl)).symm.trans h0_) (by decide), fun h0_ => absurd ((hoff 15 (by kernel_rfl)).symm.trans h0_) (by decide), Q_X3_, Q_X4_, Q_X7_, Q_X10_, fun _ => rfl, Q_X12_, Q_X13_⟩
     refine steps_cons ?_ ?_
     ·
      rintro b a w' ⟨v918, v922, v926, v930, v934, gb936, gb937, m3_, m4_, m7_, m10_, m11_, m12_, m13_, ha, Q_HO907, Q_HO911, Q_HO915, Q_BK901, Q_BK902, Q_BK903, Q_HB, Q_NB937_936, Q_NB936_937, Q_HO919, Q_HO923, Q_HO927, Q_HO931, Q_HO935, Q_BK936, Q_GW936, Q_GE936, Q_NB901_936, Q_NB936_901, Q_NB902_936, Q_NB936_902, Q_NB903_936, Q_NB936_903, Q_BK937, Q_GW937, Q_GE937, Q_NB901_937, Q_NB937_901, Q_NB902_937, Q_NB937_902, Q_NB903_937, Q_NB937_903, Q_BK936_e14, Q_BK937_e15, Q_X3_, Q_X4_, Q_X7_, Q_X10_, Q_X11_, Q_X12_, Q_X13_⟩ hb_ hon hoff
      refine ⟨_, rfl, fun K hK => ?_⟩
      replace ha := am ha
      have HO907 := am Q_HO907
      have HO911 := am Q_HO911
      have HO915 := am Q_HO915
      have BK901 := am Q_BK901
      have BK902 := am Q_BK902
      have BK903 := am Q_BK903
      have HB := am Q_HB
      refine box_step ?hg (N := 7) ?hd (cs := #[.bool false, .slice none 0 0]) (t := 25) ?hr ?_; (case hd => rfl); (case hg => rfl); (case hr => (go_simp; done))
      intro gb936 hg w40 hbox hb
      have n0_ := am (Kd.R_below HO907.out hb)
      have n1_ := am (Kd.R_below HO911.out hb)
      have n2_ := am (Kd.R_below HO915.out hb)
      have n3_ := am (blk_below BK901.out hb)
      have n4_ := am (blk_below BK902.out hb)
      have n5_ := am (blk_below BK903.out hb)
      have n6_ := am (below_step HB.out hb)
      have n7_ := am hbox
      have n8_ := am (gel hg HB.out)
      have n9_ := am (gel hg HB.out)
      have n10_ := am (nel hg BK901.out)
      have n11_ := am (ner hg BK901.out)
      have n12_ := am (nel hg BK902.out)
      have n13_ := am (ner hg BK902.out)
      have n14_ := am (nel hg BK903.out)
      have n15_ := am (ner hg BK903.out)
      have z_NB937_936 := fun (h0_ : up b 12 12 = true) (h1_ : up b 12 13 = true) => (show gb937 ≠ gb936 from by rw [hg]; cases hb15_ : b 15 with | false => exact Nat.ne_of_lt (blk_lt (Q_BK937 (by simpa [up] using h1_) hb15_)) | true => exact Nat.ne_of_lt (blk_lt (Q_BK937_e15 hb15_)))
      have z_NB936_937 := fun (h0_ : up b 12 12 = true) (h1_ : up b 12 13 = true) => (show gb936 ≠ gb937 from by rw [hg]; cases hb15_ : b 15 with | false => exact Nat.ne_of_gt (blk_lt (Q_BK937 (by simpa [up] using h1_) hb15_)) | true => exact Nat.ne_of_gt (blk_lt (Q_BK937_e15 hb15_)))
      have z_HO919 := fun (h0_ : b 3 = true) => (show Kd.R (Kd.int .u32) 78 w40 w.heap.size (fun k_ => some k_ ≠ (.slice Ao30 t905.length co30 : Value).ownBlock ∧ some k_ ≠ (.slice Ao33 t909.length co33 : Value).ownBlock ∧ some k_ ≠ (.slice Ao36 t913.length co36 : Value).ownBlock) v918 t917 from by exact (Kd.R_below (by exact (Q_HO919 h0_)) hb))
      have z_HO923 := fun (h0_ : b 4 = true) => (show Kd.R (Kd.int .u32) 78 w40 w.heap.size (fun k_ => some k_ ≠ (.slice Ao30 t905.length co30 : Value).ownBlock ∧ some k_ ≠ (.slice Ao33 t909.length co33 : Value).ownBlock ∧ some k_ ≠ (.slice Ao36 t913.length co36 : Value).ownBlock) v922 t921 from by exact (Kd.R_below (by exact (Q_HO923 h0_)) hb))
      have z_HO927 := fun (h0_ : b 7 = true) => (show Kd.R (Kd.int .u32) 78 w40 w.heap.size (fun k_ => some k_ ≠ (.slice Ao30 t905.length co30 : Value).ownBlock ∧ some k_ ≠ (.slice Ao33 t909.length co33 : Value).ownBlock ∧ some k_ ≠ (.slice Ao36 t913.length co36 : Value).ownBlock) v926 t925 from by exact (Kd.R_below (by exact (Q_HO927 h0_)) hb))
      have z_HO931 := fun (h0_ : b 10 = true) => (show Kd.R (Kd.int .u32) 78 w40 w.heap.size (fun k_ => some k_ ≠ (.slice Ao30 t905.length co30 : Value).ownBlock ∧ some k_ ≠ (.slice Ao33 t909.length co33 : Value).ownBlock ∧ some k_ ≠ (.slice Ao36 t913.length co36 : Value).ownBlock) v930 t929 from by exact (Kd.R_below (by exact (Q_HO931 h0_)) hb))
      have z_HO935 := fun (h0_ : b 11 = true) => (show Kd.R (Kd.int .u32) 78 w40 w.heap.size (fun k_ => some k_ ≠ (.slice Ao30 t905.length co30 : Value).ownBlock ∧ some k_ ≠ (.slice Ao33 t909.length co33 : Value).ownBlock ∧ some k_ ≠ (.slice Ao36 t913.length co36 : Value).ownBlock) v934 t933 from by exact (Kd.R_below (by exact (Q_HO935 h0_)) hb))
      have z_BK937 := fun (h0_ : b 13 = true) (h1_ : b 15 = false) => (show w40.heap[gb937]? = some (.cells #[.bool false, .slice none 0 0] 25 (0, 0)) from by exact (blk_below (g := gb937) (o := .cells #[.bool false, .slice none 0 0] 25 (0, 0)) (by exact (Q_BK937 h0_ h1_)) hb))
      clear HO907
      clear HO911
      clear HO915
      clear BK901
      clear BK902
      clear BK903
      clear HB
      have HO907 := n0_
      have HO911 := n1_
      have HO915 := n2_
      have BK901 := n3_
      have BK902 := n4_
      have BK903 := n5_
      have HB := n6_
      have BK936 := n7_
      have GW936 := n8_
      have GE936 := n9_
      have NB901_936 := n10_
      have NB936_901 := n11_
      have NB902_936 := n12_
      have NB936_902 := n13_
      have NB903_936 := n14_
      have NB936_903 := n15_
      clear n0_ n1_ n2_ n3_ n4_ n5_ n6_ n7_ n8_ n9_ n10_ n11_ n12_ n13_ n14_ n15_
      clear hb hbox hg
      refine hK.out _ _ ⟨v918, v922, v926, v930, v934, gb936, gb937, m3_, m4_, m7_, m10_, m11_, (.pointer (some ⟨gb936, 0, none⟩)), m13_, (by rw [ha.out]; exact putSel_upk 12 hb_ rfl rfl rfl), HO907.out, HO911.out, HO915.out, BK901.out, BK902.out, BK903.out, HB.out, @z_NB937_936, @z_NB936_937, z_HO919, z_HO923, z_HO927, z_HO931, z_HO935, fun _ _ => BK936.out, fun _ => GW936.out, fun _ => GE936.out, fun _ => NB901_936.out, fun _ => NB936_901.out, fun _ => NB902_936.out, fun _ => NB936_902.out, fun _ => NB903_936.out, fun _ => NB936_903.out, z_BK937, Q_GW937, Q_GE937, Q_NB901_937, Q_NB937_901, Q_NB902_937, Q_NB937_902, Q_NB903_937, Q_NB937_903, fun h0_ => absurd ((hoff 14 (by kernel_rfl)).symm.trans h0_) (by decide), fun h0_ => absurd ((hoff 15 (by kernel_rfl)).symm.trans h0_) (by decide), Q_X3_, Q_X4_, Q_X7_, Q_X10_, Q_X11_, fun _ => rfl, Q_X13_⟩
     refine steps_cons ?_ ?_
     ·
      rintro b a w' ⟨v918, v922, v926, v930, v934, gb936, gb937, m3_, m4_, m7_, m10_, m11_, m12_, m13_, ha, Q_HO907, Q_HO911, Q_HO915, Q_BK901, Q_BK902, Q_BK903, Q_HB, Q_NB937_936, Q_NB936_937, Q_HO919, Q_HO923, Q_HO927, Q_HO931, Q_HO935, Q_BK936, Q_GW936, Q_GE936, Q_NB901_936, Q_NB936_901, Q_NB902_936, Q_NB936_902, Q_NB903_936, Q_NB936_903, Q_BK937, Q_GW937, Q_GE937, Q_NB901_937, Q_NB937_901, Q_NB902_937, Q_NB937_902, Q_NB903_937, Q_NB937_903, Q_BK936_e14, Q_BK937_e15, Q_X3_, Q_X4_, Q_X7_, Q_X10_, Q_X11_, Q_X12_, Q_X13_⟩ hb_ hon hoff
      refine ⟨_, rfl, fun K hK => ?_⟩
      replace ha := am ha
      have HO907 := am Q_HO907
      have HO911 := am Q_HO911
      have HO915 := am Q_HO915
      have BK901 := am Q_BK901
      have BK902 := am Q_BK902
      have BK903 := am Q_BK903
      have HB := am Q_HB
      refine box_step ?hg (N := 8) ?hd (cs := #[.bool false, .slice none 0 0]) (t := 25) ?hr ?_; (case hd => rfl); (case hg => rfl); (case hr => (go_simp; done))
      intro gb937 hg w40 hbox hb
      have n0_ := am (Kd.R_below HO907.out hb)
      have n1_ := am (Kd.R_below HO911.out hb)
      have n2_ := am (Kd.R_below HO915.out hb)
      have n3_ := am (blk_below BK901.out hb)
      have n4_ := am (blk_below BK902.out hb)
      have n5_ := am (blk_below BK903.out hb)
      have n6_ := am (below_step HB.out hb)
      have n7_ := am hbox
      have n8_ := am (gel hg HB.out)
      have n9_ := am (gel hg HB.out)
      have n10_ := am (nel hg BK901.out)
      have n11_ := am (ner hg BK901.out)
      have n12_ := am (nel hg BK902.out)
      have n13_ := am (ner hg BK902.out)
      have n14_ := am (nel hg BK903.out)
      have n15_ := am (ner hg BK903.out)
      have z_NB937_936 := fun (h0_ : up b 13 12 = true) (h1_ : up b 13 13 = true) => (show gb937 ≠ gb936 from by rw [hg]; cases hb15_ : b 14 with | false => exact Nat.ne_of_gt (blk_lt (Q_BK936 (by simpa [up] using h0_) hb15_)) | true => exact Nat.ne_of_gt (blk_lt (Q_BK936_e14 hb15_)))
      have z_NB936_937 := fun (h0_ : up b 13 12 = true) (h1_ : up b 13 13 = true) => (show gb936 ≠ gb937 from by rw [hg]; cases hb15_ : b 14 with | false => exact Nat.ne_of_lt (blk_lt (Q_BK936 (by simpa [up] using h0_) hb15_)) | true => exact Nat.ne_of_lt (blk_lt (Q_BK936_e14 hb15_)))
      have z_HO919 := fun (h0_ : b 3 = true) => (show Kd.R (Kd.int .u32) 78 w40 w.heap.size (fun k_ => some k_ ≠ (.slice Ao30 t905.length co30 : Value).ownBlock ∧ some k_ ≠ (.slice Ao33 t909.length co33 : Value).ownBlock ∧ some k_ ≠ (.slice Ao36 t913.length co36 : Value).ownBlock) v918 t917 from by exact (Kd.R_below (by exact (Q_HO919 h0_)) hb))
      have z_HO923 := fun (h0_ : b 4 = true) => (show Kd.R (Kd.int .u32) 78 w40 w.heap.size (fun k_ => some k_ ≠ (.slice Ao30 t905.length co30 : Value).ownBlock ∧ some k_ ≠ (.slice Ao33 t909.length co33 : Value).ownBlock ∧ some k_ ≠ (.slice Ao36 t913.length co36 : Value).ownBlock) v922 t921 from by exact (Kd.R_below (by exact (Q_HO923 h0_)) hb))
      have z_HO927 := fun (h0_ : b 7 = true) => (show Kd.R (Kd.int .u32) 78 w40 w.heap.size (fun k_ => some k_ ≠ (.slice Ao30 t905.length co30 : Value).ownBlock ∧ some k_ ≠ (.slice Ao33 t909.length co33 : Value).ownBlock ∧ some k_ ≠ (.slice Ao36 t913.length co36 : Value).ownBlock) v926 t925 from by exact (Kd.R_below (by exact (Q_HO927 h0_)) hb))
      have z_HO931 := fun (h0_ : b 10 = true) => (show Kd.R (Kd.int .u32) 78 w40 w.heap.size (fun k_ => some k_ ≠ (.slice Ao30 t905.length co30 : Value).ownBlock ∧ some k_ ≠ (.slice Ao33 t909.length co33 : Value).ownBlock ∧ some k_ ≠ (.slice Ao36 t913.length co36 : Value).ownBlock) v930 t929 from by exact (Kd.R_below (by exact (Q_HO931 h0_)) hb))
      have z_HO935 := fun (h0_ : b 11 = true) => (show Kd.R (Kd.int .u32) 78 w40 w.heap.size (fun k_ => some k_ ≠ (.slice Ao30 t905.length co30 : Value).ownBlock ∧ some k_ ≠ (.slice Ao33 t909.length co33 : Value).ownBlock ∧ some k_ ≠ (.slice Ao36 t913.length co36 : Value).ownBlock) v934 t933 from by exact (Kd.R_below (by exact (Q_HO935 h0_)) hb))
      have z_BK936 := fun (h0_ : b 12 = true) (h1_ : b 14 = false) => (show w40.heap[gb936]? = some (.cells #[.bool false, .slice none 0 0] 25 (0, 0)) from by exact (blk_below (g := gb936) (o := .cells #[.bool false, .slice none 0 0] 25 (0, 0)) (by exact (Q_BK936 h0_ h1_)) hb))
      clear HO907
      clear HO911
      clear HO915
      clear BK901
      clear BK902
      clear BK903
      clear HB
      have HO907 := n0_
      have HO911 := n1_
      have HO915 := n2_
      have BK901 := n3_
      have BK902 := n4_
      have BK903 := n5_
      have HB := n6_
      have BK937 := n7_
      have GW937 := n8_
      have GE937 := n9_
      have NB901_937 := n10_
      have NB937_901 := n11_
      have NB902_937 := n12_
      have NB937_902 := n13_
      have NB903_937 := n14_
      have NB937_903 := n15_
      clear n0_ n1_ n2_ n3_ n4_ n5_ n6_ n7_ n8_ n9_ n10_ n11_ n12_ n13_ n14_ n15_
      clear hb hbox hg
      refine hK.out _ _ ⟨v918, v922, v926, v930, v934, gb936, gb937, m3_, m4_, m7_, m10_, m11_, m12_, (.pointer (some ⟨gb937, 0, none⟩)), (by rw [ha.out]; exact putSel_upk 13 hb_ rfl rfl rfl), HO907.out, HO911.out, HO915.out, BK901.out, BK902.out, BK903.out, HB.out, @z_NB937_936, @z_NB936_937, z_HO919, z_HO923, z_HO927, z_HO931, z_HO935, z_BK936, Q_GW936, Q_GE936, Q_NB901_936, Q_NB936_901, Q_NB902_936, Q_NB936_902, Q_NB903_936, Q_NB936_903, fun _ _ => BK937.out, fun _ => GW937.out, fun _ => GE937.out, fun _ => NB901_937.out, fun _ => NB937_901.out, fun _ => NB902_937.out, fun _ => NB937_902.out, fun _ => NB903_937.out, fun _ => NB937_903.out, fun h0_ => absurd ((hoff 14 (by kernel_rfl)).symm.trans h0_) (by decide), fun h0_ => absurd ((hoff 15 (by kernel_rfl)).symm.trans h0_) (by decide), Q_X3_, Q_X4_, Q_X7_, Q_X10_, Q_X11_, Q_X12_, fun _ => rfl⟩
     refine steps_cons ?_ ?_
     ·
      rintro b a w' ⟨v918, v922, v926, v930, v934, gb936, gb937, m3_, m4_, m7_, m10_, m11_, m12_, m13_, ha, Q_HO907, Q_HO911, Q_HO915, Q_BK901, Q_BK902, Q_BK903, Q_HB, Q_NB937_936, Q_NB936_937, Q_HO919, Q_HO923, Q_HO927, Q_HO931, Q_HO935, Q_BK936, Q_GW936, Q_GE936, Q_NB901_936, Q_NB936_901, Q_NB902_936, Q_NB936_902, Q_NB903_936, Q_NB936_903, Q_BK937, Q_GW937, Q_GE937, Q_NB901_937, Q_NB937_901, Q_NB902_937, Q_NB937_902, Q_NB903_937, Q_NB937_903, Q_BK936_e14, Q_BK937_e15, Q_X3_, Q_X4_, Q_X7_, Q_X10_, Q_X11_, Q_X12_, Q_X13_⟩ hb_ hon hoff
      refine ⟨_, rfl, fun K hK => ?_⟩
      have e7 : a.tmps[7]? = some (m12_) := by rw [ha]; exact putSel_on (e := (12, 7, m12_)) 12 rfl rfl (hon 12 (by kernel_rfl)) rfl
      rw [Q_X12_ (hon 12 (by kernel_rfl))] at e7
      have e19 : a.tmps[19]? = some (m4_) := by rw [ha]; exact putSel_on (e := (4, 19, m4_)) 4 rfl rfl (hon 4 (by kernel_rfl)) rfl
      rw [Q_X4_ (hon 4 (by kernel_rfl))] at e19
      replace ha := am ha
      have HO907 := am Q_HO907
      have HO911 := am Q_HO911
      have HO915 := am Q_HO915
      have BK901 := am Q_BK901
      have BK902 := am Q_BK902
      have BK903 := am Q_BK903
      have HB := am Q_HB
      have NB937_936 := am (Q_NB937_936 (hon 12 (by kernel_rfl)) (hon 13 (by kernel_rfl)))
      have NB936_937 := am (Q_NB936_937 (hon 12 (by kernel_rfl)) (hon 13 (by kernel_rfl)))
      have HO919 := am (Q_HO919 (hon 3 (by kernel_rfl)))
      have HO923 := am (Q_HO923 (hon 4 (by kernel_rfl)))
      have HO927 := am (Q_HO927 (hon 7 (by kernel_rfl)))
      have HO931 := am (Q_HO931 (hon 10 (by kernel_rfl)))
      have HO935 := am (Q_HO935 (hon 11 (by kernel_rfl)))
      have BK936 := am (Q_BK936 (hon 12 (by kernel_rfl)) hb_)
      have GW936 := am (Q_GW936 (hon 12 (by kernel_rfl)))
      have GE936 := am (Q_GE936 (hon 12 (by kernel_rfl)))
      have NB901_936 := am (Q_NB901_936 (hon 12 (by kernel_rfl)))
      have NB936_901 := am (Q_NB936_901 (hon 12 (by kernel_rfl)))
      have NB902_936 := am (Q_NB902_936 (hon 12 (by kernel_rfl)))
      have NB936_902 := am (Q_NB936_902 (hon 12 (by kernel_rfl)))
      have NB903_936 := am (Q_NB903_936 (hon 12 (by kernel_rfl)))
      have NB936_903 := am (Q_NB936_903 (hon 12 (by kernel_rfl)))
      have BK937 := am (Q_BK937 (hon 13 (by kernel_rfl)) (hoff 15 (by kernel_rfl)))
      have GW937 := am (Q_GW937 (hon 13 (by kernel_rfl)))
      have GE937 := am (Q_GE937 (hon 13 (by kernel_rfl)))
      have NB901_937 := am (Q_NB901_937 (hon 13 (by kernel_rfl)))
      have NB937_901 := am (Q_NB937_901 (hon 13 (by kernel_rfl)))
      have NB902_937 := am (Q_NB902_937 (hon 13 (by kernel_rfl)))
      have NB937_902 := am (Q_NB937_902 (hon 13 (by kernel_rfl)))
      have NB903_937 := am (Q_NB903_937 (hon 13 (by kernel_rfl)))
      have NB937_903 := am (Q_NB937_903 (hon 13 (by kernel_rfl)))
      obtain ⟨Ao52, co52, eo52⟩ := Kd.R_slice HO923.out
      (subst eo52)
      have hs51 : w'.cell? ⟨gb936, 0, none⟩ = some (.bool false) := (blk_cell BK936.out 0).trans rfl
      have hfs51 := blk_frozen BK936.out 0
      have hns51_0 := NB901_936.out
      have hns51_1 := NB902_936.out
      have hns51_2 := NB903_936.out
      have hns51_4 := NB937_936.out
      have hms51_0 := NB936_901.out
      have hms51_1 := NB936_902.out
      have hms51_2 := NB936_903.out
      have hms51_4 := NB936_937.out
      have hs53 : w'.cell? ⟨gb936, 1, none⟩ = some (.slice none 0 0) := (blk_cell BK936.out 1).trans rfl
      have hfs53 := blk_frozen BK936.out 1
      have hns53_0 := NB901_936.out
      have hns53_1 := NB902_936.out
      have hns53_2 := NB903_936.out
      have hns53_4 := NB937_936.out
      have hms53_0 := NB936_901.out
      have hms53_1 := NB936_902.out
      have hms53_2 := NB936_903.out
      have hms53_4 := NB936_937.out
      refine skip_ (w1 := ?_) (by rfl) rfl ?_ ?_
      rotate_left
      ·
       go_simp
       rfl
      refine hK.out _ _ ⟨v918, .slice Ao52 t921.length co52, v926, v930, v934, gb936, gb937, m3_, m4_, m7_, m10_, m11_, m12_, m13_, (by rw [ha.out]; exact putSel_none (v := undef) rfl), (by exact Kd.R_mono (Kd.R_far (p := ⟨gb936, 1, none⟩) (Kd.R_far (p := ⟨gb936, 0, none⟩) (Kd.R_types HO907.out BK936.out (by decide)) (fun _ hk => by exact hk.2) (.bool t920)) (fun _ hk => by exact hk.2) (.slice Ao52 t921.length co52)) (fun _ hk => by grind)), (by exact Kd.R_mono (Kd.R_far (p := ⟨gb936, 1, none⟩) (Kd.R_far (p := ⟨gb936, 0, none⟩) (Kd.R_types HO911.out BK936.out (by decide)) (fun _ hk => by exact hk.2) (.bool t920)) (fun _ hk => by exact hk.2) (.slice Ao52 t921.length co52)) (fun _ hk => by grind)), (by exact Kd.R_mono (Kd.R_far (p := ⟨gb936, 1, none⟩) (Kd.R_far (p := ⟨gb936, 0, none⟩) (Kd.R_types HO915.out BK936.out (by decide)) (fun _ hk => by exact hk.2) (.bool t920)) (fun _ hk => by exact hk.2) (.slice Ao52 t921.length co52)) (fun _ hk => by grind)), (by refine blk_far ?_ NB901_936.out _; refine blk_far ?_ NB901_936.out _; exact BK901.out), (by refine blk_far ?_ NB902_936.out _; refine blk_far ?_ NB902_936.out _; exact BK902.out), (by refine blk_far ?_ NB903_936.out _; refine blk_far ?_ NB903_936.out _; exact BK903.out), (by repeat ((with_reducible first | exact HB.out | refine below_set ?_ GE936.out))), fun _ _ => NB937_936.out, fun _ _ => NB936_937.out, fun _ => (by exact Kd.R_mono (Kd.R_far (p := ⟨gb936, 1, none⟩) (Kd.R_far (p := ⟨gb936, 0, none⟩) (Kd.R_types HO919.out BK936.out (by decide)) (fun _ hk => by exact hk.2) (.bool t920)) (fun _ hk => by exact hk.2) (.slice Ao52 t921.length co52)) (fun _ hk => by grind)), fun _ => (by exact Kd.R_mono (Kd.R_far (p := ⟨gb936, 1, none⟩) (Kd.R_far (p := ⟨gb936, 0, none⟩) (Kd.R_types HO923.out BK936.out (by decide)) (fun _ hk => by exact hk.2) (.bool t920)) (fun _ hk => by exact hk.2) (.slice Ao52 t921.length co52)) (fun _ hk => by grind)), fun _ => (by exact Kd.R_mono (Kd.R_far (p := ⟨gb936, 1, none⟩) (Kd.R_far (p := ⟨gb936, 0, none⟩) (Kd.R_types HO927.out BK936.out (by decide)) (fun _ hk => by exact hk.2) (.bool t920)) (fun _ hk => by exact hk.2) (.slice Ao52 t921.length co52)) (fun _ hk => by grind)), fun _ => (by exact Kd.R_mono (Kd.R_far (p := ⟨gb936, 1, none⟩) (Kd.R_far (p := ⟨gb936, 0, none⟩) (Kd.R_types HO931.out BK936.out (by decide)) (fun _ hk => by exact hk.2) (.bool t920)) (fun _ hk => by exact hk.2) (.slice Ao52 t921.length co52)) (fun _ hk => by grind)), fun _ => (by exact Kd.R_mono (Kd.R_far (p := ⟨gb936, 1, none⟩) (Kd.R_far (p := ⟨gb936, 0, none⟩) (Kd.R_types HO935.out BK936.out (by decide)) (fun _ hk => by exact hk.2) (.bool t920)) (fun _ hk => by exact hk.2) (.slice Ao52 t921.length co52)) (fun _ hk => by grind)), fun _ h1_ => absurd ((up_self b 14).symm.trans h1_) (by decide), fun _ => GW936.out, fun _ => GE936.out, fun _ => NB901_936.out, fun _ => NB936_901.out, fun _ => NB902_936.out, fun _ => NB936_902.out, fun _ => NB903_936.out, fun _ => NB936_903.out, fun _ _ => (by refine blk_far ?_ NB937_936.out _; refine blk_far ?_ NB937_936.out _; exact BK937.out), fun _ => GW937.out, fun _ => GE937.out, fun _ => NB901_937.out, fun _ => NB937_901.out, fun _ => NB902_937.out, fun _ => NB937_902.out, fun _ => NB903_937.out, fun _ => NB937_903.out, fun _ => (by refine blk_put (cs := #[.bool t920, .slice none 0 0]) ?_ 1 _ rfl; refine blk_put (cs := #[.bool false, .slice none 0 0]) ?_ 0 _ rfl; exact BK936.out), fun h0_ => absurd ((hoff 15 (by kernel_rfl)).symm.trans h0_) (by decide), Q_X3_, Q_X4_, Q_X7_, Q_X10_, Q_X11_, Q_X12_, Q_X13_⟩
     refine steps_cons ?_ ?_
     ·
      rintro b a w' ⟨v918, v922, v926, v930, v934, gb936, gb937, m3_, m4_, m7_, m10_, m11_, m12_, m13_, ha, Q_HO907, Q_HO911, Q_HO915, Q_BK901, Q_BK902, Q_BK903, Q_HB, Q_NB937_936, Q_NB936_937, Q_HO919, Q_HO923, Q_HO927, Q_HO931, Q_HO935, Q_BK936, Q_GW936, Q_GE936, Q_NB901_936, Q_NB936_901, Q_NB902_936, Q_NB936_902, Q_NB903_936, Q_NB936_903, Q_BK937, Q_GW937, Q_GE937, Q_NB901_937, Q_NB937_901, Q_NB902_937, Q_NB937_902, Q_NB903_937, Q_NB937_903, Q_BK936_e14, Q_BK937_e15, Q_X3_, Q_X4_, Q_X7_, Q_X10_, Q_X11_, Q_X12_, Q_X13_⟩ hb_ hon hoff
      refine ⟨_, rfl, fun K hK => ?_⟩
      have e8 : a.tmps[8]? = some (m13_) := by rw [ha]; exact putSel_on (e := (13, 8, m13_)) 13 rfl rfl (hon 13 (by kernel_rfl)) rfl
      rw [Q_X13_ (hon 13 (by kernel_rfl))] at e8
      have e26 : a.tmps[26]? = some (m11_) := by rw [ha]; exact putSel_on (e := (11, 26, m11_)) 11 rfl rfl (hon 11 (by kernel_rfl)) rfl
      rw [Q_X11_ (hon 11 (by kernel_rfl))] at e26
      replace ha := am ha
      have HO907 := am Q_HO907
      have HO911 := am Q_HO911
      have HO915 := am Q_HO915
      have BK901 := am Q_BK901
      have BK902 := am Q_BK902
      have BK903 := am Q_BK903
      have HB := am Q_HB
      have NB937_936 := am (Q_NB937_936 (hon 12 (by kernel_rfl)) (hon 13 (by kernel_rfl)))
      have NB936_937 := am (Q_NB936_937 (hon 12 (by kernel_rfl)) (hon 13 (by kernel_rfl)))
      have HO919 := am (Q_HO919 (hon 3 (by kernel_rfl)))
      have HO923 := am (Q_HO923 (hon 4 (by kernel_rfl)))
      have HO927 := am (Q_HO927 (hon 7 (by kernel_rfl)))
      have HO931 := am (Q_HO931 (hon 10 (by kernel_rfl)))
      have HO935 := am (Q_HO935 (hon 11 (by kernel_rfl)))
      have GW936 := am (Q_GW936 (hon 12 (by kernel_rfl)))
      have GE936 := am (Q_GE936 (hon 12 (by kernel_rfl)))
      have NB901_936 := am (Q_NB901_936 (hon 12 (by kernel_rfl)))
      have NB936_901 := am (Q_NB936_901 (hon 12 (by kernel_rfl)))
      have NB902_936 := am (Q_NB902_936 (hon 12 (by kernel_rfl)))
      have NB936_902 := am (Q_NB936_902 (hon 12 (by kernel_rfl)))
      have NB903_936 := am (Q_NB903_936 (hon 12 (by kernel_rfl)))
      have NB936_903 := am (Q_NB936_903 (hon 12 (by kernel_rfl)))
      have BK937 := am (Q_BK937 (hon 13 (by kernel_rfl)) hb_)
      have GW937 := am (Q_GW937 (hon 13 (by kernel_rfl)))
      have GE937 := am (Q_GE937 (hon 13 (by kernel_rfl)))
      have NB901_937 := am (Q_NB901_937 (hon 13 (by kernel_rfl)))
      have NB937_901 := am (Q_NB937_901 (hon 13 (by kernel_rfl)))
      have NB902_937 := am (Q_NB902_937 (hon 13 (by kernel_rfl)))
      have NB937_902 := am (Q_NB937_902 (hon 13 (by kernel_rfl)))
      have NB903_937 := am (Q_NB903_937 (hon 13 (by kernel_rfl)))
      have NB937_903 := am (Q_NB937_903 (hon 13 (by kernel_rfl)))
      have BK936 := am (Q_BK936_e14 (hon 14 (by kernel_rfl)))
      obtain ⟨Ao55, co55, eo55⟩ := Kd.R_slice HO935.out
      (subst eo55)
      have hs54 : w'.cell? ⟨gb937, 0, none⟩ = some (.bool false) := (blk_cell BK937.out 0).trans rfl
      have hfs54 := blk_frozen BK937.out 0
      have hns54_0 := NB901_937.out
      have hns54_1 := NB902_937.out
      have hns54_2 := NB903_937.out
      have hns54_3 := NB936_937.out
      have hms54_0 := NB937_901.out
      have hms54_1 := NB937_902.out
      have hms54_2 := NB937_903.out
      have hms54_3 := NB937_936.out
      have hs56 : w'.cell? ⟨gb937, 1, none⟩ = some (.slice none 0 0) := (blk_cell BK937.out 1).trans rfl
      have hfs56 := blk_frozen BK937.out 1
      have hns56_0 := NB901_937.out
      have hns56_1 := NB902_937.out
      have hns56_2 := NB903_937.out
      have hns56_3 := NB936_937.out
      have hms56_0 := NB937_901.out
      have hms56_1 := NB937_902.out
      have hms56_2 := NB937_903.out
      have hms56_3 := NB937_936.out
      refine skip_ (w1 := ?_) (by rfl) rfl ?_ ?_
      rotate_left
      ·
       go_simp
       rfl
      refine hK.out _ _ ⟨v918, v922, v926, v930, .slice Ao55 t933.length co55, gb936, gb937, m3_, m4_, m7_, m10_, m11_, m12_, m13_, (by rw [ha.out]; exact putSel_none (v := undef) rfl), (by exact Kd.R_mono (Kd.R_far (p := ⟨gb937, 1, none⟩) (Kd.R_far (p := ⟨gb937, 0, none⟩) (Kd.R_types HO907.out BK937.out (by decide)) (fun _ hk => by exact hk.2) (.bool t932)) (fun _ hk => by exact hk.2) (.slice Ao55 t933.length co55)) (fun _ hk => by grind)), (by exact Kd.R_mono (Kd.R_far (p := ⟨gb937, 1, none⟩) (Kd.R_far (p := ⟨gb937, 0, none⟩) (Kd.R_types HO911.out BK937.out (by decide)) (fun _ hk => by exact hk.2) (.bool t932)) (fun _ hk => by exact hk.2) (.slice Ao55 t933.length co55)) (fun _ hk => by grind)), (by exact Kd.R_mono (Kd.R_far (p := ⟨gb937, 1, none⟩) (Kd.R_far (p := ⟨gb937, 0, none⟩) (Kd.R_types HO915.out BK937.out (by decide)) (fun _ hk => by exact hk.2) (.bool t932)) (fun _ hk => by exact hk.2) (.slice Ao55 t933.length co55)) (fun _ hk => by grind)), (by refine blk_far ?_ NB901_937.out _; refine blk_far ?_ NB901_937.out _; exact BK901.out), (by refine blk_far ?_ NB902_937.out _; refine blk_far ?_ NB902_937.out _; exact BK902.out), (by refine blk_far ?_ NB903_937.out _; refine blk_far ?_ NB903_937.out _; exact BK903.out), (by repeat ((with_reducible first | exact HB.out | refine below_set ?_ GE937.out))), fun _ _ => NB937_936.out, fun _ _ => NB936_937.out, fun _ => (by exact Kd.R_mono (Kd.R_far (p := ⟨gb937, 1, none⟩) (Kd.R_far (p := ⟨gb937, 0, none⟩) (Kd.R_types HO919.out BK937.out (by decide)) (fun _ hk => by exact hk.2) (.bool t932)) (fun _ hk => by exact hk.2) (.slice Ao55 t933.length co55)) (fun _ hk => by grind)), fun _ => (by exact Kd.R_mono (Kd.R_far (p := ⟨gb937, 1, none⟩) (Kd.R_far (p := ⟨gb937, 0, none⟩) (Kd.R_types HO923.out BK937.out (by decide)) (fun _ hk => by exact hk.2) (.bool t932)) (fun _ hk => by exact hk.2) (.slice Ao55 t933.length co55)) (fun _ hk => by grind)), fun _ => (by exact Kd.R_mono (Kd.R_far (p := ⟨gb937, 1, none⟩) (Kd.R_far (p := ⟨gb937, 0, none⟩) (Kd.R_types HO927.out BK937.out (by decide)) (fun _ hk => by exact hk.2) (.bool t932)) (fun _ hk => by exact hk.2) (.slice Ao55 t933.length co55)) (fun _ hk => by grind)), fun _ => (by exact Kd.R_mono (Kd.R_far (p := ⟨gb937, 1, none⟩) (Kd.R_far (p := ⟨gb937, 0, none⟩) (Kd.R_types HO931.out BK937.out (by decide)) (fun _ hk => by exact hk.2) (.bool t932)) (fun _ hk => by exact hk.2) (.slice Ao55 t933.length co55)) (fun _ hk => by grind)), fun _ => (by exact Kd.R_mono (Kd.R_far (p := ⟨gb937, 1, none⟩) (Kd.R_far (p := ⟨gb937, 0, none⟩) (Kd.R_types HO935.out BK937.out (by decide)) (fun _ hk => by exact hk.2) (.bool t932)) (fun _ hk => by exact hk.2) (.slice Ao55 t933.length co55)) (fun _ hk => by grind)), fun _ h1_ => absurd ((hon 14 (by kernel_rfl)).symm.trans h1_) (by decide), fun _ => GW936.out, fun _ => GE936.out, fun _ => NB901_936.out, fun _ => NB936_901.out, fun _ => NB902_936.out, fun _ => NB936_902.out, fun _ => NB903_936.out, fun _ => NB936_903.out, fun _ h1_ => absurd ((up_self b 15).symm.trans h1_) (by decide), fun _ => GW937.out, fun _ => GE937.out, fun _ => NB901_937.out, fun _ => NB937_901.out, fun _ => NB902_937.out, fun _ => NB937_902.out, fun _ => NB903_937.out, fun _ => NB937_903.out, fun _ => (by refine blk_far ?_ NB936_937.out _; refine blk_far ?_ NB936_937.out _; exact BK936.out), fun _ => (by refine blk_put (cs := #[.bool t932, .slice none 0 0]) ?_ 1 _ rfl; refine blk_put (cs := #[.bool false, .slice none 0 0]) ?_ 0 _ rfl; exact BK937.out), Q_X3_, Q_X4_, Q_X7_, Q_X10_, Q_X11_, Q_X12_, Q_X13_⟩
     exact steps_nil
    rintro b a w56 hall ⟨v918, v922, v926, v930, v934, gb936, gb937, m3_, m4_, m7_, m10_, m11_, m12_, m13_, ha, Q_HO907, Q_HO911, Q_HO915, Q_BK901, Q_BK902, Q_BK903, Q_HB, Q_NB937_936, Q_NB936_937, Q_HO919, Q_HO923, Q_HO927, Q_HO931, Q_HO935, Q_BK936, Q_GW936, Q_GE936, Q_NB901_936, Q_NB936_901, Q_NB902_936, Q_NB936_902, Q_NB903_936, Q_NB936_903, Q_BK937, Q_GW937, Q_GE937, Q_NB901_937, Q_NB937_901, Q_NB902_937, Q_NB937_902, Q_NB903_937, Q_NB937_903, Q_BK936_e14, Q_BK937_e15, Q_X3_, Q_X4_, Q_X7_, Q_X10_, Q_X11_, Q_X12_, Q_X13_⟩
    clear BK901 BK902 BK903 HB HO907 HO911 HO915
    have hb0_ := hall 0 (by kernel_rfl)
    have hb1_ := hall 1 (by kernel_rfl)
    have hb2_ := hall 2 (by kernel_rfl)
    have hb3_ := hall 3 (by kernel_rfl)
    have hb4_ := hall 4 (by kernel_rfl)
    have hb5_ := hall 5 (by kernel_rfl)
    have hb6_ := hall 6 (by kernel_rfl)
    have hb7_ := hall 7 (by kernel_rfl)
    have hb8_ := hall 8 (by kernel_rfl)
    have hb9_ := hall 9 (by kernel_rfl)
    have hb10_ := hall 10 (by kernel_rfl)
    have hb11_ := hall 11 (by kernel_rfl)
    have hb12_ := hall 12 (by kernel_rfl)
    have hb13_ := hall 13 (by kernel_rfl)
    have hb14_ := hall 14 (by kernel_rfl)
    have hb15_ := hall 15 (by kernel_rfl)
    subst ha
    obtain rfl := Q_X3_ hb3_
    obtain rfl := Q_X4_ hb4_
    obtain rfl := Q_X7_ hb7_
    obtain rfl := Q_X10_ hb10_
    obtain rfl := Q_X11_ hb11_
    obtain rfl := Q_X12_ hb12_
    obtain rfl := Q_X13_ hb13_
    simp only [putSel, hb0_, hb1_, hb2_, hb3_, hb4_, hb5_, hb6_, hb7_, hb8_, hb9_, hb10_, hb11_, hb12_, hb13_, hb14_, hb15_, if_true, Act.put, sI_, s0_, s1_]
    have HO907 := am Q_HO907
    clear Q_HO907
    have HO911 := am Q_HO911
    clear Q_HO911
    have HO915 := am Q_HO915
    clear Q_HO915
    have BK901 := am Q_BK901
    clear Q_BK901
    have BK902 := am Q_BK902
    clear Q_BK902
    have BK903 := am Q_BK903
    clear Q_BK903
    have HB := am Q_HB
    clear Q_HB
    have NB937_936 := am (Q_NB937_936 hb12_ hb13_)
    clear Q_NB937_936
    have NB936_937 := am (Q_NB936_937 hb12_ hb13_)
    clear Q_NB936_937
    have HO919 := am (Q_HO919 hb3_)
    clear Q_HO919
    have HO923 := am (Q_HO923 hb4_)
    clear Q_HO923
    have HO927 := am (Q_HO927 hb7_)
    clear Q_HO927
    have HO931 := am (Q_HO931 hb10_)
    clear Q_HO931
    have HO935 := am (Q_HO935 hb11_)
    clear Q_HO935
    clear Q_BK936
    have GW936 := am (Q_GW936 hb12_)
    clear Q_GW936
    have GE936 := am (Q_GE936 hb12_)
    clear Q_GE936
    have NB901_936 := am (Q_NB901_936 hb12_)
    clear Q_NB901_936
    have NB936_901 := am (Q_NB936_901 hb12_)
    clear Q_NB936_901
    have NB902_936 := am (Q_NB902_936 hb12_)
    clear Q_NB902_936
    have NB936_902 := am (Q_NB936_902 hb12_)
    clear Q_NB936_902
    have NB903_936 := am (Q_NB903_936 hb12_)
    clear Q_NB903_936
    have NB936_903 := am (Q_NB936_903 hb12_)
    clear Q_NB936_903
    clear Q_BK937
    have GW937 := am (Q_GW937 hb13_)
    clear Q_GW937
    have GE937 := am (Q_GE937 hb13_)
    clear Q_GE937
    have NB901_937 := am (Q_NB901_937 hb13_)
    clear Q_NB901_937
    have NB937_901 := am (Q_NB937_901 hb13_)
    clear Q_NB937_901
    have NB902_937 := am (Q_NB902_937 hb13_)
    clear Q_NB902_937
    have NB937_902 := am (Q_NB937_902 hb13_)
    clear Q_NB937_902
    have NB903_937 := am (Q_NB903_937 hb13_)
    clear Q_NB903_937
    have NB937_903 := am (Q_NB937_903 hb13_)
    clear Q_NB937_903
    have BK936 := am (Q_BK936_e14 hb14_)
    clear Q_BK936_e14
    have BK937 := am (Q_BK937_e15 hb15_)
    clear Q_BK937_e15
    clear hall hb0_ hb1_ hb2_ hb3_ hb4_ hb5_ hb6_ hb7_ hb8_ hb9_ hb10_ hb11_ hb12_ hb13_ hb14_ hb15_
    try go_wp2
    replace HO907 := am (Kd.R_drew HO907.out)
    replace HO911 := am (Kd.R_drew HO911.out)
    replace HO915 := am (Kd.R_drew HO915.out)
    replace HO919 := am (Kd.R_drew HO919.out)
    replace HO923 := am (Kd.R_drew HO923.out)
    replace HO927 := am (Kd.R_drew HO927.out)
    replace HO931 := am (Kd.R_drew HO931.out)
    replace HO935 := am (Kd.R_drew HO935.out)
    replace BK901 := am (blk_drew BK901.out)
    replace BK902 := am (blk_drew BK902.out)
    replace BK903 := am (blk_drew BK903.out)
    replace BK936 := am (blk_drew BK936.out)
    replace BK937 := am (blk_drew BK937.out)
    replace HB := am (below_drew1 HB.out)
    refine start_ (n := 25) (S := fun w' => w'.cell? ⟨gb901, 0, none⟩ = some (.bool t904) ∧ w'.cell? ⟨gb901, 1, none⟩ = some (.slice Ao30 t905.length co30) ∧ w'.cell? ⟨gb902, 0, none⟩ = some (.bool t908) ∧ w'.cell? ⟨gb902, 1, none⟩ = some (.slice Ao33 t909.length co33) ∧ w'.cell? ⟨gb936, 0, none⟩ = some (.bool t920) ∧ w'.cell? ⟨gb936, 1, none⟩ = some (v922) ∧ w'.cell? ⟨gb937, 0, none⟩ = some (.bool t932) ∧ w'.cell? ⟨gb937, 1, none⟩ = some (v934)) (ds := []) #[false, false, false, false, false, false, false, false, false, false, false, false, false, false, false, false, false, false, false, false, false, false, false, false, false] (by kernel_rfl) rfl rfl ⟨(blk_cell BK901.out 0).trans rfl, (blk_cell BK901.out 1).trans rfl, (blk_cell BK902.out 0).trans rfl, (blk_cell BK902.out 1).trans rfl, (blk_cell BK936.out 0).trans rfl, (blk_cell BK936.out 1).trans rfl, (blk_cell BK937.out 0).trans rfl, (blk_cell BK937.out 1).trans rfl⟩ (fun hHeld => ?_); refine with_tabW zelligelaw04_WholeRings.tab3 zelligelaw04_WholeRings.bits3 (fun HT_ HW_ => ?_)
    generalize w56.drew = w57 at HO907 HO911 HO915 HO919 HO923 HO927 HO931 HO935 BK901 BK902 BK903 BK936 BK937 HB hHeld ⊢
    refine take_ (i := 0) (N := some 27) (v := ?_) (a' := ?_) #[true, false, false, false, false, false, false, false, false, false, false, false, false, false, false, false, false, false, false, false, false, false, false, false, false] rfl rfl (take_ofW HT_.out HW_.out (by kernel_rfl)) (fun _ _ _ h => h) (Or.inl ⟨by rfl, ?_⟩) hHeld ?_ ?_
    rotate_left
    ·
     rintro w' ⟨s0, s1, s2, s3, s4, s5, s6, s7⟩
     go_simp
     with_reducible rfl
    rotate_left
    ·
     simp only [Act.put, sI_, s0_, s1_, i64_w, i32_w]
     rfl
    refine take_ (i := 1) (N := some 28) (v := ?_) (a' := ?_) #[true, true, false, false, false, false, false, false, false, false, false, false, false, false, false, false, false, false, false, false, false, false, false, false, false] rfl rfl (take_ofW HT_.out HW_.out (by kernel_rfl)) (fun _ _ _ h => h) (Or.inl ⟨by rfl, ?_⟩) hHeld ?_ ?_
    rotate_left
    ·
     rintro w' ⟨s0, s1, s2, s3, s4, s5, s6, s7⟩
     go_simp
     with_reducible rfl
    rotate_left
    ·
     simp only [Act.put, sI_, s0_, s1_, i64_w, i32_w]
     rfl
    refine take_ (i := 3) (N := some 30) (v := ?_) (a' := ?_) #[true, true, false, true, false, false, false, false, false, false, false, false, false, false, false, false, false, false, false, false, false, false, false, false, false] rfl rfl (take_ofW HT_.out HW_.out (by kernel_rfl)) (fun _ _ _ h => h) (Or.inl ⟨by rfl, ?_⟩) hHeld ?_ ?_
    rotate_left
    ·
     rintro w' ⟨s0, s1, s2, s3, s4, s5, s6, s7⟩
     go_simp
     with_reducible rfl
    rotate_left
    ·
     simp only [Act.put, sI_, s0_, s1_, i64_w, i32_w]
     rfl
    refine take_ (i := 5) (N := some 32) (v := ?_) (a' := ?_) #[true, true, false, true, false, true, false, false, false, false, false, false, false, false, false, false, false, false, false, false, false, false, false, false, false] rfl rfl (take_ofW HT_.out HW_.out (by kernel_rfl)) (fun _ _ _ h => h) (Or.inl ⟨by rfl, ?_⟩) hHeld ?_ ?_
    rotate_left
    ·
     rintro w' ⟨s0, s1, s2, s3, s4, s5, s6, s7⟩
     go_simp
     with_reducible rfl
    rotate_left
    ·
     simp only [Act.put, sI_, s0_, s1_, i64_w, i32_w]
     rfl
    refine one_ (i := 2) (N := some 29) #[true, true, true, true, false, true, false, false, false, false, false, false, false, false, false, false, false, false, false, false, false, false, false, false, false] rfl rfl (one_of HT_.out (by kernel_rfl)) (by decide) (fun K hK => ?_)
    refine goes_ Try.func19 (by kernel_rfl) rfl #[.agg #[.bool t904, .slice Ao30 t905.length co30], .agg #[.bool t908, .slice Ao33 t909.length co33]] (by rfl) rfl rfl (by (try simp only [List.map_toArray, List.map_cons, List.map_nil]); rfl) ?_
    with_reducible refine (whole_Add.calls k t904 _ _ t905 t908 _ _ t909 t938 t939 _ ?side1 ?side2 ?side3 ?side4 A12.out).mono ?_
    (case side1 => exact (Kd.R_reads' HO907.out).2.2)
    (case side2 => exact (Kd.R_reads' HO907.out).2.1)
    (case side3 => exact (Kd.R_reads' HO911.out).2.2)
    (case side4 => exact (Kd.R_reads' HO911.out).2.1)
    rintro e w58 ⟨v940, rfl, ho0, hb⟩
    refine ⟨_, rfl, ?_⟩
    have HO941 := am (Kd.R_lower (Kd.R_new' (Kd.R_new' (Kd.R_new' (Kd.R_new' (Kd.R_new' (Kd.R_new' (Kd.R_new' (Kd.R_new' ho0 (Kd.R_lt HO907.out)) (Kd.R_lt HO911.out)) (Kd.R_lt HO915.out)) (Kd.R_lt HO919.out)) (Kd.R_lt HO923.out)) (Kd.R_lt HO927.out)) (Kd.R_lt HO931.out)) (Kd.R_lt HO935.out)) (below_size HB.out))
    replace HO907 := am (Kd.R_elder' HO907.out (Kd.R_base ho0) hb)
    replace HO911 := am (Kd.R_elder' HO911.out (Kd.R_base ho0) hb)
    replace HO915 := am (Kd.R_elder' HO915.out (Kd.R_base ho0) hb)
    replace HO919 := am (Kd.R_elder' HO919.out (Kd.R_base ho0) hb)
    replace HO923 := am (Kd.R_elder' HO923.out (Kd.R_base ho0) hb)
    replace HO927 := am (Kd.R_elder' HO927.out (Kd.R_base ho0) hb)
    replace HO931 := am (Kd.R_elder' HO931.out (Kd.R_base ho0) hb)
    replace HO935 := am (Kd.R_elder' HO935.out (Kd.R_base ho0) hb)
    replace BK901 := am (blk_below BK901.out hb)
    replace BK902 := am (blk_below BK902.out hb)
    replace BK903 := am (blk_below BK903.out hb)
    replace BK936 := am (blk_below BK936.out hb)
    replace BK937 := am (blk_below BK937.out hb)
    replace HB := am (below_step HB.out hb)
    try clear hb
    try clear ho0
    obtain ⟨Ao59, co59, eo59⟩ := Kd.R_slice HO941.out
    (subst eo59)
    refine hK.out _ _ ⟨(blk_cell BK901.out 0).trans rfl, (blk_cell BK901.out 1).trans rfl, (blk_cell BK902.out 0).trans rfl, (blk_cell BK902.out 1).trans rfl, (blk_cell BK936.out 0).trans rfl, (blk_cell BK936.out 1).trans rfl, (blk_cell BK937.out 0).trans rfl, (blk_cell BK937.out 1).trans rfl⟩ (fun hHeld => ?_)
    clear hK K
    refine norm_ (a' := ?_) ?_ ?_
    rotate_left
    ·
     show Act.put _ (some 29) _ = _
     simp only [Act.put, sI_, s0_, s1_, i64_w, i32_w]
     rfl
    refine one_ (i := 4) (N := some 31) #[true, true, true, true, true, true, false, false, false, false, false, false, false, false, false, false, false, false, false, false, false, false, false, false, false] rfl rfl (one_of HT_.out (by kernel_rfl)) (by decide) (fun K hK => ?_)
    refine goes_ Try.func21 (by kernel_rfl) rfl #[.agg #[.bool t938, .slice Ao59 t939.length co59], .agg #[.bool t908, .slice Ao33 t909.length co33]] (by rfl) rfl rfl (by (try simp only [List.map_toArray, List.map_cons, List.map_nil]); rfl) ?_
    with_reducible refine (whole_Sub.calls k t938 _ _ t939 t908 _ _ t909 t942 t943 _ ?side1 ?side2 ?side3 ?side4 A13.out).mono ?_
    (case side1 => exact (Kd.R_reads' HO941.out).2.2)
    (case side2 => exact (Kd.R_reads' HO941.out).2.1)
    (case side3 => exact (Kd.R_reads' HO911.out).2.2)
    (case side4 => exact (Kd.R_reads' HO911.out).2.1)
    rintro e w60 ⟨v944, rfl, ho0, hb⟩
    refine ⟨_, rfl, ?_⟩
    have HO945 := am (Kd.R_lower (Kd.R_new' (Kd.R_new' (Kd.R_new' (Kd.R_new' (Kd.R_new' (Kd.R_new' (Kd.R_new' (Kd.R_new' (Kd.R_new' ho0 (Kd.R_lt HO907.out)) (Kd.R_lt HO911.out)) (Kd.R_lt HO915.out)) (Kd.R_lt HO919.out)) (Kd.R_lt HO923.out)) (Kd.R_lt HO927.out)) (Kd.R_lt HO931.out)) (Kd.R_lt HO935.out)) (Kd.R_lt HO941.out)) (below_size HB.out))
    replace HO907 := am (Kd.R_elder' HO907.out (Kd.R_base ho0) hb)
    replace HO911 := am (Kd.R_elder' HO911.out (Kd.R_base ho0) hb)
    replace HO915 := am (Kd.R_elder' HO915.out (Kd.R_base ho0) hb)
    replace HO919 := am (Kd.R_elder' HO919.out (Kd.R_base ho0) hb)
    replace HO923 := am (Kd.R_elder' HO923.out (Kd.R_base ho0) hb)
    replace HO927 := am (Kd.R_elder' HO927.out (Kd.R_base ho0) hb)
    replace HO931 := am (Kd.R_elder' HO931.out (Kd.R_base ho0) hb)
    replace HO935 := am (Kd.R_elder' HO935.out (Kd.R_base ho0) hb)
    replace HO941 := am (Kd.R_elder' HO941.out (Kd.R_base ho0) hb)
    replace BK901 := am (blk_below BK901.out hb)
    replace BK902 := am (blk_below BK902.out hb)
    replace BK903 := am (blk_below BK903.out hb)
    replace BK936 := am (blk_below BK936.out hb)
    replace BK937 := am (blk_below BK937.out hb)
    replace HB := am (below_step HB.out hb)
    try clear hb
    try clear ho0
    obtain ⟨Ao61, co61, eo61⟩ := Kd.R_slice HO945.out
    (subst eo61)
    refine hK.out _ _ ⟨(blk_cell BK901.out 0).trans rfl, (blk_cell BK901.out 1).trans rfl, (blk_cell BK902.out 0).trans rfl, (blk_cell BK902.out 1).trans rfl, (blk_cell BK936.out 0).trans rfl, (blk_cell BK936.out 1).trans rfl, (blk_cell BK937.out 0).trans rfl, (blk_cell BK937.out 1).trans rfl⟩ (fun hHeld => ?_)
    clear hK K
    refine norm_ (a' := ?_) ?_ ?_
    rotate_left
    ·
     show Act.put _ (some 31) _ = _
     simp only [Act.put, sI_, s0_, s1_, i64_w, i32_w]
     rfl
    refine one_ (i := 6) (N := some 33) #[true, true, true, true, true, true, true, false, false, false, false, false, false, false, false, false, false, false, false, false, false, false, false, false, false] rfl rfl (one_of HT_.out (by kernel_rfl)) (by decide) (fun K hK => ?_)
    refine goes_ Try.func30 (by kernel_rfl) rfl #[.agg #[.bool t942, .slice Ao61 t943.length co61], .agg #[.bool t904, .slice Ao30 t905.length co30]] (by rfl) rfl rfl (by (try simp only [List.map_toArray, List.map_cons, List.map_nil]); rfl) ?_
    with_reducible refine (whole_Cmp.calls k t942 _ _ t943 t904 _ _ t905 t946 _ ?side1 ?side2 ?side3 ?side4 A14.out).mono ?_
    (case side1 => exact (Kd.R_reads' HO945.out).2.2)
    (case side2 => exact (Kd.R_reads' HO945.out).2.1)
    (case side3 => exact (Kd.R_reads' HO907.out).2.2)
    (case side4 => exact (Kd.R_reads' HO907.out).2.1)
    rintro e w62 ⟨rfl, hb⟩
    refine ⟨_, rfl, ?_⟩
    replace HO907 := am (Kd.R_below HO907.out hb)
    replace HO911 := am (Kd.R_below HO911.out hb)
    replace HO915 := am (Kd.R_below HO915.out hb)
    replace HO919 := am (Kd.R_below HO919.out hb)
    replace HO923 := am (Kd.R_below HO923.out hb)
    replace HO927 := am (Kd.R_below HO927.out hb)
    replace HO931 := am (Kd.R_below HO931.out hb)
    replace HO935 := am (Kd.R_below HO935.out hb)
    replace HO941 := am (Kd.R_below HO941.out hb)
    replace HO945 := am (Kd.R_below HO945.out hb)
    replace BK901 := am (blk_below BK901.out hb)
    replace BK902 := am (blk_below BK902.out hb)
    replace BK903 := am (blk_below BK903.out hb)
    replace BK936 := am (blk_below BK936.out hb)
    replace BK937 := am (blk_below BK937.out hb)
    replace HB := am (below_step HB.out hb)
    (try clear hb)
    obtain ⟨Ao63, co63, eo63⟩ := Kd.R_slice HO923.out
    (subst eo63)
    obtain ⟨Ao64, co64, eo64⟩ := Kd.R_slice HO935.out
    (subst eo64)
    refine hK.out _ _ ⟨(blk_cell BK901.out 0).trans rfl, (blk_cell BK901.out 1).trans rfl, (blk_cell BK902.out 0).trans rfl, (blk_cell BK902.out 1).trans rfl, (blk_cell BK936.out 0).trans rfl, (blk_cell BK936.out 1).trans rfl, (blk_cell BK937.out 0).trans rfl, (blk_cell BK937.out 1).trans rfl⟩ (fun hHeld => ?_)
    clear hK K
    refine norm_ (a' := ?_) ?_ ?_
    rotate_left
    ·
     show Act.put _ (some 33) _ = _
     simp only [Act.put, sI_, s0_, s1_, i64_w, i32_w]
     rfl
    refine pure_ (i := 7) (N := some 34) (v := ?_) (a' := ?_) #[true, true, true, true, true, true, true, true, false, false, false, false, false, false, false, false, false, false, false, false, false, false, false, false, false] rfl rfl (any_of HT_.out (by kernel_rfl)) (fun _ _ _ h => h) (Or.inl ⟨by rfl, ?_⟩) ?_ ?_
    rotate_left
    ·
     intro w'
     go_simp
     with_reducible rfl
    rotate_left
    ·
     simp only [Act.put, sI_, s0_, s1_, i64_w, i32_w]
     rfl
    refine pure_ (i := 8) (N := some 35) (v := ?_) (a' := ?_) #[true, true, true, true, true, true, true, true, true, false, false, false, false, false, false, false, false, false, false, false, false, false, false, false, false] rfl rfl (any_of HT_.out (by kernel_rfl)) (fun _ _ _ h => h) (Or.inl ⟨by rfl, ?_⟩) ?_ ?_
    rotate_left
    ·
     intro w'
     go_simp
     with_reducible rfl
    rotate_left
    ·
     simp only [Act.put, sI_, s0_, s1_, i64_w, i32_w]
     rfl
    refine take_ (i := 9) (N := some 36) (v := ?_) (a' := ?_) #[true, true, true, true, true, true, true, true, true, true, false, false, false, false, false, false, false, false, false, false, false, false, false, false, false] rfl rfl (take_ofW HT_.out HW_.out (by kernel_rfl)) (fun _ _ _ h => h) (Or.inl ⟨by rfl, ?_⟩) hHeld ?_ ?_
    rotate_left
    ·
     rintro w' ⟨s0, s1, s2, s3, s4, s5, s6, s7⟩
     go_simp
     with_reducible rfl
    rotate_left
    ·
     simp only [Act.put, sI_, s0_, s1_, i64_w, i32_w]
     rfl
    refine take_ (i := 10) (N := some 37) (v := ?_) (a' := ?_) #[true, true, true, true, true, true, true, true, true, true, true, false, false, false, false, false, false, false, false, false, false, false, false, false, false] rfl rfl (take_ofW HT_.out HW_.out (by kernel_rfl)) (fun _ _ _ h => h) (Or.inl ⟨by rfl, ?_⟩) hHeld ?_ ?_
    rotate_left
    ·
     rintro w' ⟨s0, s1, s2, s3, s4, s5, s6, s7⟩
     go_simp
     with_reducible rfl
    rotate_left
    ·
     simp only [Act.put, sI_, s0_, s1_, i64_w, i32_w]
     rfl
    refine one_ (i := 11) (N := some 38) #[true, true, true, true, true, true, true, true, true, true, true, true, false, false, false, false, false, false, false, false, false, false, false, false, false] rfl rfl (one_of HT_.out (by kernel_rfl)) (by decide) (fun K hK => ?_)
    refine goes_ Try.func30 (by kernel_rfl) rfl #[.agg #[.bool t920, .slice Ao63 t921.length co63], .agg #[.bool t932, .slice Ao64 t933.length co64]] (by rfl) rfl rfl (by (try simp only [List.map_toArray, List.map_cons, List.map_nil]); rfl) ?_
    with_reducible refine (whole_Cmp.calls k t920 _ _ t921 t932 _ _ t933 t947 _ ?side1 ?side2 ?side3 ?side4 A16.out).mono ?_
    (case side1 => exact (Kd.R_reads' HO923.out).2.2)
    (case side2 => exact (Kd.R_reads' HO923.out).2.1)
    (case side3 => exact (Kd.R_reads' HO935.out).2.2)
    (case side4 => exact (Kd.R_reads' HO935.out).2.1)
    rintro e w65 ⟨rfl, hb⟩
    refine ⟨_, rfl, ?_⟩
    replace HO907 := am (Kd.R_below HO907.out hb)
    replace HO911 := am (Kd.R_below HO911.out hb)
    replace HO915 := am (Kd.R_below HO915.out hb)
    replace HO919 := am (Kd.R_below HO919.out hb)
    replace HO923 := am (Kd.R_below HO923.out hb)
    replace HO927 := am (Kd.R_below HO927.out hb)
    replace HO931 := am (Kd.R_below HO931.out hb)
    replace HO935 := am (Kd.R_below HO935.out hb)
    replace HO941 := am (Kd.R_below HO941.out hb)
    replace HO945 := am (Kd.R_below HO945.out hb)
    replace BK901 := am (blk_below BK901.out hb)
    replace BK902 := am (blk_below BK902.out hb)
    replace BK903 := am (blk_below BK903.out hb)
    replace BK936 := am (blk_below BK936.out hb)
    replace BK937 := am (blk_below BK937.out hb)
    replace HB := am (below_step HB.out hb)
    (try clear hb)
    refine hK.out _ _ ⟨(blk_cell BK901.out 0).trans rfl, (blk_cell BK901.out 1).trans rfl, (blk_cell BK902.out 0).trans rfl, (blk_cell BK902.out 1).trans rfl, (blk_cell BK936.out 0).trans rfl, (blk_cell BK936.out 1).trans rfl, (blk_cell BK937.out 0).trans rfl, (blk_cell BK937.out 1).trans rfl⟩ (fun hHeld => ?_)
    clear hK K
    refine norm_ (a' := ?_) ?_ ?_
    rotate_left
    ·
     show Act.put _ (some 38) _ = _
     simp only [Act.put, sI_, s0_, s1_, i64_w, i32_w]
     rfl
    refine pure_ (i := 12) (N := some 39) (v := ?_) (a' := ?_) #[true, true, true, true, true, true, true, true, true, true, true, true, true, false, false, false, false, false, false, false, false, false, false, false, false] rfl rfl (any_of HT_.out (by kernel_rfl)) (fun _ _ _ h => h) (Or.inl ⟨by rfl, ?_⟩) ?_ ?_
    rotate_left
    ·
     intro w'
     go_simp
     with_reducible rfl
    rotate_left
    ·
     simp only [Act.put, sI_, s0_, s1_, i64_w, i32_w]
     rfl
    refine pure_ (i := 13) (N := some 40) (v := ?_) (a' := ?_) #[true, true, true, true, true, true, true, true, true, true, true, true, true, true, false, false, false, false, false, false, false, false, false, false, false] rfl rfl (any_of HT_.out (by kernel_rfl)) (fun _ _ _ h => h) (Or.inl ⟨by rfl, ?_⟩) ?_ ?_
    rotate_left
    ·
     intro w'
     go_simp
     with_reducible rfl
    rotate_left
    ·
     simp only [Act.put, sI_, s0_, s1_, i64_w, i32_w]
     rfl
    refine pure_ (i := 14) (N := some 41) (v := ?_) (a' := ?_) #[true, true, true, true, true, true, true, true, true, true, true, true, true, true, true, false, false, false, false, false, false, false, false, false, false] rfl rfl (any_of HT_.out (by kernel_rfl)) (fun _ _ _ h => h) (Or.inl ⟨by rfl, ?_⟩) ?_ ?_
    rotate_left
    ·
     intro w'
     go_simp
     with_reducible rfl
    rotate_left
    ·
     simp only [Act.put, sI_, s0_, s1_, i64_w, i32_w]
     rfl
    refine take_ (i := 15) (N := some 42) (v := ?_) (a' := ?_) #[true, true, true, true, true, true, true, true, true, true, true, true, true, true, true, true, false, false, false, false, false, false, false, false, false] rfl rfl (take_ofW HT_.out HW_.out (by kernel_rfl)) (fun _ _ _ h => h) (Or.inl ⟨by rfl, ?_⟩) hHeld ?_ ?_
    rotate_left
    ·
     rintro w' ⟨s0, s1, s2, s3, s4, s5, s6, s7⟩
     go_simp
     with_reducible rfl
    rotate_left
    ·
     simp only [Act.put, sI_, s0_, s1_, i64_w, i32_w]
     rfl
    refine take_ (i := 17) (N := some 44) (v := ?_) (a' := ?_) #[true, true, true, true, true, true, true, true, true, true, true, true, true, true, true, true, false, true, false, false, false, false, false, false, false] rfl rfl (take_ofW HT_.out HW_.out (by kernel_rfl)) (fun _ _ _ h => h) (Or.inl ⟨by rfl, ?_⟩) hHeld ?_ ?_
    rotate_left
    ·
     rintro w' ⟨s0, s1, s2, s3, s4, s5, s6, s7⟩
     go_simp
     with_reducible rfl
    rotate_left
    ·
     simp only [Act.put, sI_, s0_, s1_, i64_w, i32_w]
     rfl
    refine one_ (i := 16) (N := some 43) #[true, true, true, true, true, true, true, true, true, true, true, true, true, true, true, true, true, true, false, false, false, false, false, false, false] rfl rfl (one_of HT_.out (by kernel_rfl)) (by decide) (fun K hK => ?_)
    refine goes_ Try.func32 (by kernel_rfl) rfl #[.agg #[.bool t920, .slice Ao63 t921.length co63]] (by rfl) rfl rfl (by (try simp only [List.map_toArray, List.map_cons, List.map_nil]); rfl) ?_
    with_reducible refine (whole_Show.calls k t920 _ _ t921 t948 _ ?side1 ?side2 A18.out).mono ?_
    (case side1 => exact (Kd.R_reads' HO923.out).2.2)
    (case side2 => exact (Kd.R_reads' HO923.out).2.1)
    rintro e w66 ⟨rfl, hb⟩
    refine ⟨_, rfl, ?_⟩
    replace HO907 := am (Kd.R_below HO907.out hb)
    replace HO911 := am (Kd.R_below HO911.out hb)
    replace HO915 := am (Kd.R_below HO915.out hb)
    replace HO919 := am (Kd.R_below HO919.out hb)
    replace HO923 := am (Kd.R_below HO923.out hb)
    replace HO927 := am (Kd.R_below HO927.out hb)
    replace HO931 := am (Kd.R_below HO931.out hb)
    replace HO935 := am (Kd.R_below HO935.out hb)
    replace HO941 := am (Kd.R_below HO941.out hb)
    replace HO945 := am (Kd.R_below HO945.out hb)
    replace BK901 := am (blk_below BK901.out hb)
    replace BK902 := am (blk_below BK902.out hb)
    replace BK903 := am (blk_below BK903.out hb)
    replace BK936 := am (blk_below BK936.out hb)
    replace BK937 := am (blk_below BK937.out hb)
    replace HB := am (below_step HB.out hb)
    (try clear hb)
    refine hK.out _ _ ⟨(blk_cell BK901.out 0).trans rfl, (blk_cell BK901.out 1).trans rfl, (blk_cell BK902.out 0).trans rfl, (blk_cell BK902.out 1).trans rfl, (blk_cell BK936.out 0).trans rfl, (blk_cell BK936.out 1).trans rfl, (blk_cell BK937.out 0).trans rfl, (blk_cell BK937.out 1).trans rfl⟩ (fun hHeld => ?_)
    clear hK K
    refine norm_ (a' := ?_) ?_ ?_
    rotate_left
    ·
     show Act.put _ (some 43) _ = _
     simp only [Act.put, sI_, s0_, s1_, i64_w, i32_w]
     rfl
    refine one_ (i := 18) (N := some 45) #[true, true, true, true, true, true, true, true, true, true, true, true, true, true, true, true, true, true, true, false, false, false, false, false, false] rfl rfl (one_of HT_.out (by kernel_rfl)) (by decide) (fun K hK => ?_)
    refine goes_ Try.func32 (by kernel_rfl) rfl #[.agg #[.bool t932, .slice Ao64 t933.length co64]] (by rfl) rfl rfl (by (try simp only [List.map_toArray, List.map_cons, List.map_nil]); rfl) ?_
    with_reducible refine (whole_Show.calls k t932 _ _ t933 t949 _ ?side1 ?side2 A19.out).mono ?_
    (case side1 => exact (Kd.R_reads' HO935.out).2.2)
    (case side2 => exact (Kd.R_reads' HO935.out).2.1)
    rintro e w67 ⟨rfl, hb⟩
    refine ⟨_, rfl, ?_⟩
    replace HO907 := am (Kd.R_below HO907.out hb)
    replace HO911 := am (Kd.R_below HO911.out hb)
    replace HO915 := am (Kd.R_below HO915.out hb)
    replace HO919 := am (Kd.R_below HO919.out hb)
    replace HO923 := am (Kd.R_below HO923.out hb)
    replace HO927 := am (Kd.R_below HO927.out hb)
    replace HO931 := am (Kd.R_below HO931.out hb)
    replace HO935 := am (Kd.R_below HO935.out hb)
    replace HO941 := am (Kd.R_below HO941.out hb)
    replace HO945 := am (Kd.R_below HO945.out hb)
    replace BK901 := am (blk_below BK901.out hb)
    replace BK902 := am (blk_below BK902.out hb)
    replace BK903 := am (blk_below BK903.out hb)
    replace BK936 := am (blk_below BK936.out hb)
    replace BK937 := am (blk_below BK937.out hb)
    replace HB := am (below_step HB.out hb)
    (try clear hb)
    refine hK.out _ _ ⟨(blk_cell BK901.out 0).trans rfl, (blk_cell BK901.out 1).trans rfl, (blk_cell BK902.out 0).trans rfl, (blk_cell BK902.out 1).trans rfl, (blk_cell BK936.out 0).trans rfl, (blk_cell BK936.out 1).trans rfl, (blk_cell BK937.out 0).trans rfl, (blk_cell BK937.out 1).trans rfl⟩ (fun hHeld => ?_)
    clear hK K
    refine norm_ (a' := ?_) ?_ ?_
    rotate_left
    ·
     show Act.put _ (some 45) _ = _
     simp only [Act.put, sI_, s0_, s1_, i64_w, i32_w]
     rfl
    refine pure_ (i := 19) (N := some 46) (v := ?_) (a' := ?_) #[true, true, true, true, true, true, true, true, true, true, true, true, true, true, true, true, true, true, true, true, false, false, false, false, false] rfl rfl (any_of HT_.out (by kernel_rfl)) (fun _ _ _ h => h) (Or.inl ⟨by rfl, ?_⟩) ?_ ?_
    rotate_left
    ·
     intro w'
     go_simp
     with_reducible rfl
    rotate_left
    ·
     simp only [Act.put, sI_, s0_, s1_, i64_w, i32_w]
     rfl
    refine pure_ (i := 20) (N := some 47) (v := ?_) (a' := ?_) #[true, true, true, true, true, true, true, true, true, true, true, true, true, true, true, true, true, true, true, true, true, false, false, false, false] rfl rfl (any_of HT_.out (by kernel_rfl)) (fun _ _ _ h => h) (Or.inl ⟨by rfl, ?_⟩) ?_ ?_
    rotate_left
    ·
     intro w'
     go_simp
     with_reducible rfl
    rotate_left
    ·
     simp only [Act.put, sI_, s0_, s1_, i64_w, i32_w]
     rfl
    refine pure_ (i := 21) (N := some 48) (v := ?_) (a' := ?_) #[true, true, true, true, true, true, true, true, true, true, true, true, true, true, true, true, true, true, true, true, true, true, false, false, false] rfl rfl (any_of HT_.out (by kernel_rfl)) (fun _ _ _ h => h) (Or.inl ⟨by rfl, ?_⟩) ?_ ?_
    rotate_left
    ·
     intro w'
     go_simp
     with_reducible rfl
    rotate_left
    ·
     simp only [Act.put, sI_, s0_, s1_, i64_w, i32_w]
     rfl
    refine one_ (i := 22) (N := some 49) #[true, true, true, true, true, true, true, true, true, true, true, true, true, true, true, true, true, true, true, true, true, true, true, false, false] rfl rfl (one_of HT_.out (by kernel_rfl)) (by decide) (fun K hK => ?_)
    refine goes_ Try.func15 (by kernel_rfl) rfl #[] (by rfl) rfl rfl (by (try simp only [List.map_toArray, List.map_cons, List.map_nil]); done) ?_
    with_reducible refine (zelligelaw04_lives.calls k  t950 _ A21.out).mono ?_
    rintro e w68 ⟨rfl, hb⟩
    refine ⟨_, rfl, ?_⟩
    replace HO907 := am (Kd.R_below HO907.out hb)
    replace HO911 := am (Kd.R_below HO911.out hb)
    replace HO915 := am (Kd.R_below HO915.out hb)
    replace HO919 := am (Kd.R_below HO919.out hb)
    replace HO923 := am (Kd.R_below HO923.out hb)
    replace HO927 := am (Kd.R_below HO927.out hb)
    replace HO931 := am (Kd.R_below HO931.out hb)
    replace HO935 := am (Kd.R_below HO935.out hb)
    replace HO941 := am (Kd.R_below HO941.out hb)
    replace HO945 := am (Kd.R_below HO945.out hb)
    replace BK901 := am (blk_below BK901.out hb)
    replace BK902 := am (blk_below BK902.out hb)
    replace BK903 := am (blk_below BK903.out hb)
    replace BK936 := am (blk_below BK936.out hb)
    replace BK937 := am (blk_below BK937.out hb)
    replace HB := am (below_step HB.out hb)
    (try clear hb)
    refine hK.out _ _ ⟨(blk_cell BK901.out 0).trans rfl, (blk_cell BK901.out 1).trans rfl, (blk_cell BK902.out 0).trans rfl, (blk_cell BK902.out 1).trans rfl, (blk_cell BK936.out 0).trans rfl, (blk_cell BK936.out 1).trans rfl, (blk_cell BK937.out 0).trans rfl, (blk_cell BK937.out 1).trans rfl⟩ (fun hHeld => ?_)
    clear hK K
    refine norm_ (a' := ?_) ?_ ?_
    rotate_left
    ·
     show Act.put _ (some 49) _ = _
     simp only [Act.put, sI_, s0_, s1_, i64_w, i32_w]
     rfl
    refine pure_ (i := 23) (N := some 50) (v := ?_) (a' := ?_) #[true, true, true, true, true, true, true, true, true, true, true, true, true, true, true, true, true, true, true, true, true, true, true, true, false] rfl rfl (any_of HT_.out (by kernel_rfl)) (fun _ _ _ h => h) (Or.inl ⟨by rfl, ?_⟩) ?_ ?_
    rotate_left
    ·
     intro w'
     go_simp
     with_reducible rfl
    rotate_left
    ·
     simp only [Act.put, sI_, s0_, s1_, i64_w, i32_w]
     rfl
    refine pure_ (i := 24) (N := some 6) (v := ?_) (a' := ?_) #[true, true, true, true, true, true, true, true, true, true, true, true, true, true, true, true, true, true, true, true, true, true, true, true, true] rfl rfl (any_of HT_.out (by kernel_rfl)) (fun _ _ _ h => h) (Or.inl ⟨by rfl, ?_⟩) ?_ ?_
    rotate_left
    ·
     intro w'
     go_simp
     with_reducible rfl
    rotate_left
    ·
     simp only [Act.put, sI_, s0_, s1_, i64_w, i32_w]
     rfl
    refine done_ (done_of HT_.out (by kernel_rfl)) ?_
    try go_wp2
    go_ret
    exact ⟨by rfl, by with_reducible exact HB.out⟩
   ·
    rw [if_neg c20] at H
    have c20b0 : (t948.toList == t949.toList) = false := beq_eq_false_iff_ne.mpr c20
    have c20b1 : (t948.toList != t949.toList) = true := bne_iff_ne.mpr c20
    exact absurd (Option.some.inj (H.trans (congrArg some hT.out))) (by decide)
  ·
   rw [if_neg c17] at H
   have c17b0 : (t947 == 0) = false := beq_eq_false_iff_ne.mpr c17
   have c17b1 : (t947 != 0) = true := bne_iff_ne.mpr c17
   exact absurd (Option.some.inj (H.trans (congrArg some hT.out))) (by decide)
 ·
  rw [if_neg c15] at H
  have c15b0 : (t946 == 0) = false := beq_eq_false_iff_ne.mpr c15
  have c15b1 : (t946 != 0) = true := bne_iff_ne.mpr c15
  exact absurd (Option.some.inj (H.trans (congrArg some hT.out))) (by decide)

end Go.Proofs.Ytmfmojldebhboaa.ZWhole
