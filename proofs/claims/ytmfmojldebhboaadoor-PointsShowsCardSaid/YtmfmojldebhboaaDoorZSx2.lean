-- printed by zprint.py, a program of this session's
import Derived.Test.YtmfmojldebhboaaDoorShelf
import Derived.Test.YtmfmojldebhboaaDoorBld
import Derived.Lib.ItoaLen
import Derived.Lib.AppendIntMem
import Derived.Test.YtmfmojldebhboaaDoorZSx0
namespace Go.Proofs.YtmfmojldebhboaaDoor.ZS
open Go.RowKit Go.Proofs.YtmfmojldebhboaaDoorW.PrintWords Go.Proofs.YtmfmojldebhboaaDoorW.PrintLast Go.Proofs.YtmfmojldebhboaaDoorW.PrintMore
set_option linter.unusedVariables false
set_option linter.unusedSimpArgs false

/-! ### zelligelaw23_few: function 5 -/
def zelligelaw23_few.f (l0 : List (S29)) : Option ((List (S29))) := if (l0.length : Int) > 10 then (if 10 ≤ (l0.length : Int) then ((some (l0.take 10 : List (S29))).bind fun y101 => ((some (([] : List (S29)) : List (S29))).bind fun y105 => (if y105.length + y101.length < 5864062014805 then (some (y105 ++ y101)) else (none)))) else (none)) else ((some (([] : List (S29)) : List (S29))).bind fun y111 => (if y111.length + l0.length < 5864062014805 then (some (y111 ++ l0)) else (none)))
set_option maxHeartbeats 8000000 in
set_option maxRecDepth 100000 in
theorem zelligelaw23_few.calls (A0 : Option Addr) (c0 : Nat) (l0 : List (S29)) (r : List (S29)) (w : World) (hr0 : Kd.C k29 w A0 l0.length l0) (hc0 : l0.length ≤ c0) (h : zelligelaw23_few.f l0 = some r) :
    Calls Tryd.prog 5 #[.slice A0 l0.length c0] w fun e w' => ∃ v0_ : Value, e = .returned (v0_) ∧ Kd.R k29 29 w' w.heap.size (fun _ => True) v0_ r ∧ Below w.heap.size w w' := by
  have HR0 := Aside0.mk hr0
  have HC0 := Aside0.mk hc0
  clear hr0 hc0
  have HB := Aside0.mk (Below.refl w.heap.size w)
  have H : (if (l0.length : Int) > 10 then (if 10 ≤ (l0.length : Int) then ((some (l0.take 10 : List (S29))).bind fun y101 => ((some (([] : List (S29)) : List (S29))).bind fun y105 => (if y105.length + y101.length < 5864062014805 then (some (y105 ++ y101)) else (none)))) else (none)) else ((some (([] : List (S29)) : List (S29))).bind fun y111 => (if y111.length + l0.length < 5864062014805 then (some (y111 ++ l0)) else (none)))) = some r := h
  clear h
  by_cases c2 : (l0.length : Int) > 10
  · rw [if_pos c2] at H
    have c2b0 : decide (10 < (l0.length : Int)) = true := decide_eq_true c2
    have c2b1 : decide (10 < l0.length) = true := decide_eq_true (by omega)
    clear c2
    by_cases c3 : 10 ≤ (l0.length : Int)
    · rw [if_pos c3] at H
      have c3b0 := eq_true c3
      have c3b1 : decide (10 ≤ (l0.length : Int)) = true := decide_eq_true c3
      clear c3
      obtain ⟨y101, hy101⟩ : ∃ y_ : List (S29), y_ = (l0.take 10) := ⟨_, rfl⟩
      replace H : ((some (([] : List (S29)) : List (S29))).bind fun y105 => (if y105.length + y101.length < 5864062014805 then (some (y105 ++ y101)) else (none))) = some r := by first | (rw [hy101]; with_reducible exact H) | (have H2_ := (Option.bind_some _ _).symm.trans H; rw [hy101]; with_reducible exact H2_) | (have H2_ := (Option.bind_some _ _).symm.trans H; with_reducible exact H2_) | with_reducible exact H | (rw [hy101]; exact H) | exact H
      have Ny101 := Aside0.mk hy101
      clear hy101
      obtain ⟨y105, hy105⟩ : ∃ y_ : List (S29), y_ = (([] : List (S29))) := ⟨_, rfl⟩
      replace H : (if y105.length + y101.length < 5864062014805 then (some (y105 ++ y101)) else (none)) = some r := by first | (rw [hy105]; with_reducible exact H) | (have H2_ := (Option.bind_some _ _).symm.trans H; rw [hy105]; with_reducible exact H2_) | (have H2_ := (Option.bind_some _ _).symm.trans H; with_reducible exact H2_) | with_reducible exact H | (rw [hy105]; exact H) | exact H
      have Ny105 := Aside0.mk hy105
      clear hy105
      by_cases c4 : y105.length + y101.length < 5864062014805
      · rw [if_pos c4] at H
        have LMc4 := Aside0.mk c4
        clear c4
        obtain ⟨y108, hy108⟩ : ∃ y_ : List (S29), y_ = (y105 ++ y101) := ⟨_, rfl⟩
        replace H : (some y108) = some r := by first | (rw [hy108]; with_reducible exact H) | (have H2_ := (Option.bind_some _ _).symm.trans H; rw [hy108]; with_reducible exact H2_) | (have H2_ := (Option.bind_some _ _).symm.trans H; with_reducible exact H2_) | with_reducible exact H | (rw [hy108]; exact H) | exact H
        have Ny108 := Aside0.mk hy108
        clear hy108
        obtain rfl := Option.some.inj H
        have q5 : (10 : Int) ≤ ((l0.length : Int) : Int) := of_decide_eq_true (by first | (with_reducible assumption) | assumption)
        obtain ⟨i05, hi05, _, hsz5, _⟩ := info_parts info29
        have hroom5 : l0.length ≤ c0 := HC0.out
        have hC5 : Kd.C k29 _ A0 l0.length l0 := HR0.out
        have hcut5 := cut_to (P := Tryd.prog) 22 29 .i64 Tryd.underlying22 hi05 A0 l0.length c0 10 (by omega) q5 hroom5
        have hr5 := Kd.C_take (m := 10) hC5 (by omega)
        have hy5 : y101.length = (10 : Int).toNat := (by rw [Ny101.out, List.length_take]; omega)
        rw [← Ny101.out] at hr5
        rw [← hy5] at hcut5
        have HR104 := Aside0.mk hr5
        have HC104 := Aside0.mk (show y101.length ≤ c0 from by omega)
        clear hr5 hC5 hroom5 hi05 hsz5
        have KY5 := Aside0.mk hy5
        clear hy5
        replace q5 := eq_true q5
        go_enter Tryd.func5, Tryd.ntmps5
        go_wp2_with (first | ((with_reducible refine gate_dst (N := 8) rfl ?_); refine Kd.R_lit k29 _ 29 ?hg (N := 8) ?hd (xs := ([] : List (S29))) (inner := []) (ok := fun _ => True) (okp := fun _ => True) ?hr ?hp (fun _ hk => hk) trivial (Below.refl _ _) (Nat.le_refl _) (by simp) ?_; (case hd => rfl); (case hg => rfl); (case hr => first | (go_simp; done) | (go_simp; rfl) | (go_simp; simp only [zw_u32, zw_u8, zw_u32', zw_u8', IntKind.wrap_u32, IntKind.wrap_u8]; done) | (go_simp; simp only [zw_u32, zw_u8, zw_u32', zw_u8', IntKind.wrap_u32, IntKind.wrap_u8]; rfl)); (case hp => exact (Reps.none _ _)); intro v106 w6 ho7 hb hg_ hnew_; clear hg_ hnew_; (first | rw [← Ny105.out] at ho7 | (simp only [Int.reduceToNat] at ho7; rw [← Ny105.out] at ho7)); have n0_ := Aside0.mk (Kd.R_lower ho7 (below_size (by repeat (first | (with_reducible first | exact HB.out | apply below_alloc | apply pw_below_drewN | apply below_drew1) | exact HB.out)))); have n1_ := Aside0.mk (below_step (by repeat (first | (with_reducible first | exact HB.out | apply below_alloc | apply pw_below_drewN | apply below_drew1) | exact HB.out)) hb); clear HB; have HO107 := n0_; have HB := n1_; clear n0_ n1_; clear hb ho7) | ((with_reducible refine gate_builtin (b := .append) (xs := #[.tmp 8, .tmp 9]) rfl ?_); at_builtin; refine Kd.R_append_rows k29 (w0 := w) w.heap.size rfl (.tmp 8) (.tmp 9) 22 29 (.agg #[(.int .i64 0), (.int .i64 0), (.int .i64 0)]) 24 rfl Tryd.underlying22 info29 rfl (by decide) (by omega) v106 y105 y101 _ _ _ (fun _ => True) (fun _ => False) rfl rfl ?aO ?aR (fun _ _ h => h) (fun _ h => h.elim) ?aF ?aB ?aS ?aL ?_; (case aR => repeat (first | exact (Kd.C_below HR104.out HB.out) | (with_reducible refine Kd.C_alloc ?_ _) | (with_reducible refine Kd.C_drewN ?_ _) | (with_reducible refine Kd.C_drew ?_))); (case aB => exact (by repeat (first | (with_reducible first | exact HB.out | apply below_alloc | apply pw_below_drewN | apply below_drew1) | exact HB.out))); (case aF => exact (fun _ _ => trivial)); (case aO => exact (by (with_reducible repeat (first | apply Kd.R_alloc | apply Kd.R_drewN | apply Kd.R_drew)); exact HO107.out)); (case aS => exact (below_size (by repeat (first | (with_reducible first | exact HB.out | apply below_alloc | apply pw_below_drewN | apply below_drew1) | exact HB.out)))); (case aL => have := LMc4.out; omega); intro v109 w8 ho hb hg hat; rw [← Ny108.out] at ho; have n0_ := Aside0.mk (hb); have n1_ := Aside0.mk (ho); clear HB; clear HO107; have HB := n0_; have HO110 := n1_; clear n0_ n1_; clear ho hb hg hat))
        go_ret
        exact ⟨_, by first | rfl | (simp [errW_none, errW_some] <;> rfl) | (simp [*, errW_none, errW_some] <;> rfl), by (with_reducible repeat (first | apply Kd.R_alloc | apply Kd.R_drewN | apply Kd.R_drew)); exact HO110.out, by repeat (first | (with_reducible first | exact HB.out | apply below_alloc | apply pw_below_drewN | apply below_drew1) | exact HB.out)⟩
      · rw [if_neg c4] at H
        exact absurd H (by simp)
    · rw [if_neg c3] at H
      exact absurd H (by simp)
  · rw [if_neg c2] at H
    have c2b0 : decide (10 < (l0.length : Int)) = false := decide_eq_false c2
    have c2b1 : decide (10 < l0.length) = false := decide_eq_false (by omega)
    clear c2
    obtain ⟨y111, hy111⟩ : ∃ y_ : List (S29), y_ = (([] : List (S29))) := ⟨_, rfl⟩
    replace H : (if y111.length + l0.length < 5864062014805 then (some (y111 ++ l0)) else (none)) = some r := by first | (rw [hy111]; with_reducible exact H) | (have H2_ := (Option.bind_some _ _).symm.trans H; rw [hy111]; with_reducible exact H2_) | (have H2_ := (Option.bind_some _ _).symm.trans H; with_reducible exact H2_) | with_reducible exact H | (rw [hy111]; exact H) | exact H
    have Ny111 := Aside0.mk hy111
    clear hy111
    by_cases c9 : y111.length + l0.length < 5864062014805
    · rw [if_pos c9] at H
      have LMc9 := Aside0.mk c9
      clear c9
      obtain ⟨y114, hy114⟩ : ∃ y_ : List (S29), y_ = (y111 ++ l0) := ⟨_, rfl⟩
      replace H : (some y114) = some r := by first | (rw [hy114]; with_reducible exact H) | (have H2_ := (Option.bind_some _ _).symm.trans H; rw [hy114]; with_reducible exact H2_) | (have H2_ := (Option.bind_some _ _).symm.trans H; with_reducible exact H2_) | with_reducible exact H | (rw [hy114]; exact H) | exact H
      have Ny114 := Aside0.mk hy114
      clear hy114
      obtain rfl := Option.some.inj H
      go_enter Tryd.func5, Tryd.ntmps5
      go_wp2_with (first | ((with_reducible refine gate_dst (N := 8) rfl ?_); refine Kd.R_lit k29 _ 29 ?hg (N := 8) ?hd (xs := ([] : List (S29))) (inner := []) (ok := fun _ => True) (okp := fun _ => True) ?hr ?hp (fun _ hk => hk) trivial (Below.refl _ _) (Nat.le_refl _) (by simp) ?_; (case hd => rfl); (case hg => rfl); (case hr => first | (go_simp; done) | (go_simp; rfl) | (go_simp; simp only [zw_u32, zw_u8, zw_u32', zw_u8', IntKind.wrap_u32, IntKind.wrap_u8]; done) | (go_simp; simp only [zw_u32, zw_u8, zw_u32', zw_u8', IntKind.wrap_u32, IntKind.wrap_u8]; rfl)); (case hp => exact (Reps.none _ _)); intro v112 w10 ho11 hb hg_ hnew_; clear hg_ hnew_; (first | rw [← Ny111.out] at ho11 | (simp only [Int.reduceToNat] at ho11; rw [← Ny111.out] at ho11)); have n0_ := Aside0.mk (Kd.R_lower ho11 (below_size (by repeat (first | (with_reducible first | exact HB.out | apply below_alloc | apply pw_below_drewN | apply below_drew1) | exact HB.out)))); have n1_ := Aside0.mk (below_step (by repeat (first | (with_reducible first | exact HB.out | apply below_alloc | apply pw_below_drewN | apply below_drew1) | exact HB.out)) hb); clear HB; have HO113 := n0_; have HB := n1_; clear n0_ n1_; clear hb ho11) | ((with_reducible refine gate_builtin (b := .append) (xs := #[.tmp 8, .tmp 9]) rfl ?_); at_builtin; refine Kd.R_append_rows k29 (w0 := w) w.heap.size rfl (.tmp 8) (.tmp 9) 22 29 (.agg #[(.int .i64 0), (.int .i64 0), (.int .i64 0)]) 24 rfl Tryd.underlying22 info29 rfl (by decide) (by omega) v112 y111 l0 _ _ _ (fun _ => True) (fun _ => False) rfl rfl ?aO ?aR (fun _ _ h => h) (fun _ h => h.elim) ?aF ?aB ?aS ?aL ?_; (case aR => repeat (first | exact (Kd.C_below HR0.out HB.out) | (with_reducible refine Kd.C_alloc ?_ _) | (with_reducible refine Kd.C_drewN ?_ _) | (with_reducible refine Kd.C_drew ?_))); (case aB => exact (by repeat (first | (with_reducible first | exact HB.out | apply below_alloc | apply pw_below_drewN | apply below_drew1) | exact HB.out))); (case aF => exact (fun _ _ => trivial)); (case aO => exact (by (with_reducible repeat (first | apply Kd.R_alloc | apply Kd.R_drewN | apply Kd.R_drew)); exact HO113.out)); (case aS => exact (below_size (by repeat (first | (with_reducible first | exact HB.out | apply below_alloc | apply pw_below_drewN | apply below_drew1) | exact HB.out)))); (case aL => have := LMc9.out; omega); intro v115 w12 ho hb hg hat; rw [← Ny114.out] at ho; have n0_ := Aside0.mk (hb); have n1_ := Aside0.mk (ho); clear HB; clear HO113; have HB := n0_; have HO116 := n1_; clear n0_ n1_; clear ho hb hg hat))
      go_ret
      exact ⟨_, by first | rfl | (simp [errW_none, errW_some] <;> rfl) | (simp [*, errW_none, errW_some] <;> rfl), by (with_reducible repeat (first | apply Kd.R_alloc | apply Kd.R_drewN | apply Kd.R_drew)); exact HO116.out, by repeat (first | (with_reducible first | exact HB.out | apply below_alloc | apply pw_below_drewN | apply below_drew1) | exact HB.out)⟩
    · rw [if_neg c9] at H
      exact absurd H (by simp)

-- NOT PRINTED: function 41 (abi_NoEscape)

-- NOT PRINTED: function 33 (strings_Builder_copyCheck)

-- NOT PRINTED: function 18 (strings_Builder_WriteString)

/-! ### points_Show: function 6 -/
open Go.Proofs.YtmfmojldebhboaaDoor.Bld
/-- A number's text: below nought it is nought. -/
def numB (n : Int) : ByteArray := ⟨(Lib.itoa (max n 0)).toArray⟩
abbrev In64 (n : Int) : Prop := -9223372036854775808 ≤ n ∧ n ≤ 9223372036854775807
abbrev Tab (w : World) : Prop := Lib.TabIs Tryd.prog w "internal/strconv.uint64pow10" .u64 Lib.pow10Tab
theorem tabAt {w w' : World} (h : Lib.TabBelow Tryd.prog w.heap.size w "internal/strconv.uint64pow10" .u64 Lib.pow10Tab) (hb : Below w.heap.size w w') : Tab w' := h _ hb
set_option maxHeartbeats 1000000 in
set_option maxRecDepth 100000 in
theorem number_calls (n : Int) (hn : In64 n) (w : World) (htab : Tab w) :
    Calls Tryd.prog 19 #[.int .i64 n] w fun e w' => e = .returned (.string (numB n)) ∧ Below w.heap.size w w' := by
  obtain ⟨h0, h1⟩ := hn
  go_enter Tryd.func19, Tryd.ntmps19
  go_wp2_with (go_at_call 26; refine (Tryd.strconv_Itoa _ (by omega) (by omega) _ htab).mono ?_)
  rintro e w1 ⟨rfl, k, os, rfl⟩
  go_wp2
  go_ret
  exact ⟨rfl, Lib.below_grow _ _ (Nat.le_refl _) _ _⟩
/-- A site's line. -/
def lineB (x : S29) : ByteArray := (((((⟨#[115, 105, 116, 101, 32]⟩ : ByteArray) ++ numB x.f0) ++ ⟨#[32]⟩) ++ numB x.f1) ++ ⟨#[32]⟩ ++ numB x.f2) ++ ⟨#[10]⟩
def headB (n : Int) : ByteArray := ((⟨#[112, 111, 105, 110, 116, 115, 32]⟩ : ByteArray) ++ numB n) ++ ⟨#[10]⟩
/-- What is written before the end. -/
def bodyB (n : Int) (l : List S29) : List UInt8 := (headB n).data.toList ++ l.flatMap (fun x => (lineB x).data.toList)
theorem isB_below {T e : TypeId} {B b : Nat} {bs : List Value} {W W' : World} (h : Lib.IsBuilder T e B b bs W) (hb : Below W.heap.size W W') : Lib.IsBuilder T e B b bs W' := by
  have go : ∀ p, Lib.BuilderAt T e B b p bs W → Lib.BuilderAt T e B b p bs W' := by
    intro p h
    have hlt := h.lt
    obtain ⟨hB, v, hv, hown, hne⟩ := h
    exact ⟨hB, v, (hb.block b hlt).trans hv, hown.kept (row := none) ⟨hb.os, hb.tape, hb.output, hb.size, fun k hk _ => hb.block k hk⟩ (Classical.em _), hne⟩
  exact h.elim (fun x => .inl (go _ x)) (fun x => .inr (go _ x))
theorem isB_set {T e : TypeId} {B b : Nat} {bs : List Value} {W : World} (h : Lib.IsBuilder T e B b bs W) {p : Addr} (hp : W.heap.size ≤ p.block) (u : Value) : Lib.IsBuilder T e B b bs (W.setCell p u) := isB_below h ((Below.refl _ W).setCell hp u)
theorem itoa_len (n : Int) (h : In64 n) : (numB n).size ≤ 100 := by
  have hm : 0 ≤ max n 0 := Int.le_max_right _ _
  have e : (numB n).size = (Lib.itoa (max n 0)).length := List.size_toArray
  have := Lib.itoa_length_le (max n 0) (by omega) (by have := h.2; omega)
  omega
theorem lineB_size (x : S29) (h0 : In64 x.f0) (h1 : In64 x.f1) (h2 : In64 x.f2) : (lineB x).size ≤ 400 := by
  have a := itoa_len x.f0 h0
  have b := itoa_len x.f1 h1
  have c := itoa_len x.f2 h2
  have e5 : (⟨#[115, 105, 116, 101, 32]⟩ : ByteArray).size = 5 := rfl
  have e1 : (⟨#[32]⟩ : ByteArray).size = 1 := rfl
  have e2 : (⟨#[10]⟩ : ByteArray).size = 1 := rfl
  unfold lineB
  simp only [ByteArray.size_append]
  omega
theorem headB_size (n : Int) (h : In64 n) : (headB n).size ≤ 108 := by
  have a := itoa_len n h
  have e5 : (⟨#[112, 111, 105, 110, 116, 115, 32]⟩ : ByteArray).size = 7 := rfl
  have e2 : (⟨#[10]⟩ : ByteArray).size = 1 := rfl
  unfold headB
  simp only [ByteArray.size_append]
  omega
theorem flat_len : (l : List S29) → (∀ x ∈ l, In64 x.f0 ∧ In64 x.f1 ∧ In64 x.f2) → (l.flatMap (fun x => (lineB x).data.toList)).length ≤ 400 * l.length
  | [], _ => by simp
  | x :: r, h => by
    have a := flat_len r (fun y hy => h y (List.mem_cons_of_mem _ hy))
    have b := lineB_size x (h x List.mem_cons_self).1 (h x List.mem_cons_self).2.1 (h x List.mem_cons_self).2.2
    have c : (lineB x).data.toList.length = (lineB x).size := Array.length_toList
    simp only [List.flatMap_cons, List.length_append, List.length_cons]
    omega
theorem bodyB_len (n : Int) (hn : In64 n) (l : List S29) (h : ∀ x ∈ l, In64 x.f0 ∧ In64 x.f1 ∧ In64 x.f2) : (bodyB n l).length ≤ 108 + 400 * l.length := by
  have a := headB_size n hn
  have b := flat_len l h
  have c : (headB n).data.toList.length = (headB n).size := Array.length_toList
  unfold bodyB
  rw [List.length_append]
  omega
theorem bodyB_take (n : Int) (l : List S29) (i : Nat) (hi : i < l.length) : bodyB n (l.take (i + 1)) = bodyB n (l.take i) ++ (lineB (rd_T29 l i)).data.toList := by
  unfold bodyB rd_T29
  rw [List.take_add_one, List.getElem?_eq_getElem hi, List.flatMap_append]
  simp [List.getD_eq_getElem?_getD, List.getElem?_eq_getElem hi]
theorem room (n : Int) (hn : In64 n) (l : List S29) (hl : l.length ≤ 1000) (hx : ∀ x ∈ l, In64 x.f0 ∧ In64 x.f1 ∧ In64 x.f2) (k : Nat) (x : S29) (h : In64 x.f0 ∧ In64 x.f1 ∧ In64 x.f2) :
    (Lib.byteCells (bodyB n (l.take k))).length + (lineB x).size ≤ 140737488355328 := by
  have hb := bodyB_len n hn (l.take k) (fun x h => hx x (List.mem_of_mem_take h))
  have hs := lineB_size x h.1 h.2.1 h.2.2
  have hk : (l.take k).length ≤ l.length := by rw [List.length_take]; exact Nat.min_le_right _ _
  rw [Lib.byteCells_length]
  omega
set_option maxHeartbeats 4000000 in
set_option maxRecDepth 100000 in
theorem Show_calls (n : Int) (hn : In64 n) (A : Option Addr) (c : Nat) (l : List S29) (hl : l.length ≤ 1000) (hx : ∀ x ∈ l, In64 x.f0 ∧ In64 x.f1 ∧ In64 x.f2) (w : World) (htab : Tab w) (hr : Kd.C k29 w A l.length l) (hc : l.length ≤ c) :
    Calls Tryd.prog 6 #[.int .i64 n, .slice A l.length c] w fun e w' => e = .returned (.string (⟨(bodyB n l).toArray⟩ ++ ⟨#[101, 110, 100, 10]⟩)) ∧ Below w.heap.size w w' := by
  have hT := Lib.tabBelow_of_tabIs htab
  have hu45 := Tryd.underlying45
  have hu29 := Tryd.underlying29
  have hlen := itoa_len n hn
  have s1 : (⟨#[112, 111, 105, 110, 116, 115, 32]⟩ : ByteArray).size + (numB n).size ≤ 9223372036854775807 := by
    have : (⟨#[112, 111, 105, 110, 116, 115, 32]⟩ : ByteArray).size = 7 := rfl
    omega
  go_enter Tryd.func6, Tryd.ntmps6
  go_wp2_with (go_at_call 19; refine (number_calls n hn _ ?ht).mono ?_)
  case ht => exact hT _ ((Below.refl _ _).alloc (Nat.le_refl _) _)
  rintro e w1 ⟨rfl, hb1⟩
  have hI1 : Lib.IsBuilder 45 5 w.heap.size w.heap.size [] w1 := isB_below (Lib.fresh_isBuilder 45 5 w) hb1
  have hB1 : Below w.heap.size w w1 := ((Below.refl _ w).alloc (Nat.le_refl _) _).trans (hb1.mono (by simp))
  clear hb1
  go_wp2_with (go_at_call 18; refine (WriteString w.heap.size w.heap.size [] _ _ hI1 ?h1 hB1.size).mono ?_)
  case h1 =>
    have e7 : (⟨#[112, 111, 105, 110, 116, 115, 32]⟩ : ByteArray).size = 7 := rfl
    have e1 : (⟨#[10]⟩ : ByteArray).size = 1 := rfl
    simp only [ByteArray.size_append, List.length_nil]
    omega
  rintro e w2 ⟨rfl, hI2, hb2, -⟩
  have hB2 := hB1.trans hb2
  have hI2' : Lib.IsBuilder 45 5 w.heap.size w.heap.size (Lib.byteCells (bodyB n (l.take 0))) w2 := by
    right
    have e : bodyB n (l.take 0) = (headB n).data.toList := by simp [bodyB]
    rw [e]
    exact hI2
  clear hI2 hb2 hB1 hI1
  go_wp2
  go_loopg [15] l.length (fun m v15 w' => ∃ i : Int, v15 = .int .i64 i ∧ 0 ≤ i ∧ i.toNat + m = l.length ∧ Aside0 (Lib.IsBuilder 45 5 w.heap.size w.heap.size (Lib.byteCells (bodyB n (l.take i.toNat))) w') ∧ Aside0 (Below w.heap.size w w'))
  case atStart => exact ⟨0, rfl, by omega, by simp, ⟨hI2'⟩, ⟨hB2⟩⟩
  case round =>
    obtain ⟨i, rfl, hi0, him, HI, HB⟩ := hrel
    by_cases hi : i < (l.length : Int)
    · have hd : decide (i < (l.length : Int)) = true := decide_eq_true hi
      obtain ⟨ad, e, x0, x1, x2⟩ := at_T29 hr i hi0 hi
      subst e
      replace x0 := (HB.out.cell (World.block_lt_of_cell? w _ x0)).trans x0
      replace x1 := (HB.out.cell (World.block_lt_of_cell? w _ x1)).trans x1
      replace x2 := (HB.out.cell (World.block_lt_of_cell? w _ x2)).trans x2
      have hx0 : In64 (rd_T29 l i).f0 ∧ In64 (rd_T29 l i).f1 ∧ In64 (rd_T29 l i).f2 := hx _ (by unfold rd_T29; rw [List.getD_eq_getElem?_getD, List.getElem?_eq_getElem (by omega)]; exact List.getElem_mem _)
      have l0 := itoa_len _ hx0.1
      have l1 := itoa_len _ hx0.2.1
      have l2 := itoa_len _ hx0.2.2
      have e5 : (⟨#[115, 105, 116, 101, 32]⟩ : ByteArray).size = 5 := rfl
      have t0 : ¬ (5 + (numB (rd_T29 l i).f0).size > 9223372036854775807) := by omega
      have t1 : ¬ (5 + (numB (rd_T29 l i).f0).size + 1 > 9223372036854775807) := by omega
      have t2 : ¬ (5 + (numB (rd_T29 l i).f0).size + 1 + (numB (rd_T29 l i).f1).size > 9223372036854775807) := by omega
      have t3 : ¬ (5 + (numB (rd_T29 l i).f0).size + 1 + (numB (rd_T29 l i).f1).size + 1 > 9223372036854775807) := by omega
      have t4 : ¬ (5 + (numB (rd_T29 l i).f0).size + 1 + (numB (rd_T29 l i).f1).size + 1 + (numB (rd_T29 l i).f2).size > 9223372036854775807) := by omega
      have t5 : ¬ (5 + (numB (rd_T29 l i).f0).size + 1 + (numB (rd_T29 l i).f1).size + 1 + (numB (rd_T29 l i).f2).size + 1 > 9223372036854775807) := by omega
      have HW := Aside0.mk (Below.refl wr.heap.size wr)
      have HX := Aside0.mk HB.out
      have HL : Aside0 (w.heap.size < wr.heap.size) := ⟨HI.out.elim (fun h => h.lt) (fun h => h.lt)⟩
      have HN := Aside0.mk (And.intro hi0 (And.intro hi him))
      have hw : IntKind.i64.wrap (i + 1) = i + 1 := wrap_small _ (by omega) (by omega)
      have c0 : ((wr.alloc (.cells #[.int .i64 (rd_T29 l i).f0, .int .i64 (rd_T29 l i).f1, .int .i64 (rd_T29 l i).f2] 29)).drew).cell? ⟨wr.heap.size, 0, none⟩ = some (.int .i64 (rd_T29 l i).f0) := by simp
      have c1 : ((wr.alloc (.cells #[.int .i64 (rd_T29 l i).f0, .int .i64 (rd_T29 l i).f1, .int .i64 (rd_T29 l i).f2] 29)).drew).cell? ⟨wr.heap.size, 1, none⟩ = some (.int .i64 (rd_T29 l i).f1) := by simp
      have c2 : ((wr.alloc (.cells #[.int .i64 (rd_T29 l i).f0, .int .i64 (rd_T29 l i).f1, .int .i64 (rd_T29 l i).f2] 29)).drew).cell? ⟨wr.heap.size, 2, none⟩ = some (.int .i64 (rd_T29 l i).f2) := by simp
      have cH : ((wr.alloc (.cells #[.int .i64 (rd_T29 l i).f0, .int .i64 (rd_T29 l i).f1, .int .i64 (rd_T29 l i).f2] 29)).drew).heap[wr.heap.size]? = some (.cells #[.int .i64 (rd_T29 l i).f0, .int .i64 (rd_T29 l i).f1, .int .i64 (rd_T29 l i).f2] 29) := (by show (wr.heap.push _)[wr.heap.size]? = _; simp)
      go_wp2
      go_region_held3 (fun w' => w'.heap[wr.heap.size]? = some (.cells #[.int .i64 (rd_T29 l i).f0, .int .i64 (rd_T29 l i).f1, .int .i64 (rd_T29 l i).f2] 29) ∧ w'.cell? ⟨wr.heap.size, 0, none⟩ = some (.int .i64 (rd_T29 l i).f0) ∧ w'.cell? ⟨wr.heap.size, 1, none⟩ = some (.int .i64 (rd_T29 l i).f1) ∧ w'.cell? ⟨wr.heap.size, 2, none⟩ = some (.int .i64 (rd_T29 l i).f2)) (first | (refine ⟨?_, ?_, ?_, ?_⟩ <;> assumption) | go_keep)
        (first | ((go_at_call 19); (refine (number_calls (rd_T29 l i).f0 hx0.1 _ ?ht).mono ?_); (case ht => exact hT _ (by repeat (first | exact HX.out | apply below_alloc | apply pw_below_drewN | apply below_drew1))); (rintro e w5 ⟨rfl, hb⟩); (have kH : w5.heap[wr.heap.size]? = some (.cells #[.int .i64 (rd_T29 l i).f0, .int .i64 (rd_T29 l i).f1, .int .i64 (rd_T29 l i).f2] 29) := (fun h => (hb.block _ (Array.getElem?_eq_some_iff.1 h).1).trans h) (by assumption)); (have k0 : w5.cell? ⟨wr.heap.size, 0, none⟩ = some (.int .i64 (rd_T29 l i).f0) := (fun h => (hb.cell (World.block_lt_of_cell? _ _ h)).trans h) (by assumption)); (have k1 : w5.cell? ⟨wr.heap.size, 1, none⟩ = some (.int .i64 (rd_T29 l i).f1) := (fun h => (hb.cell (World.block_lt_of_cell? _ _ h)).trans h) (by assumption)); (have k2 : w5.cell? ⟨wr.heap.size, 2, none⟩ = some (.int .i64 (rd_T29 l i).f2) := (fun h => (hb.cell (World.block_lt_of_cell? _ _ h)).trans h) (by assumption)); (have HW := Aside0.mk (below_step (by repeat (first | exact HW.out | apply below_alloc | apply pw_below_drewN | apply below_drew1)) hb)); (have HX := Aside0.mk (below_step (by repeat (first | exact HX.out | apply below_alloc | apply pw_below_drewN | apply below_drew1)) hb)); clear hb)
               | ((go_at_call 19); (refine (number_calls (rd_T29 l i).f1 hx0.2.1 _ ?ht).mono ?_); (case ht => exact hT _ (by repeat (first | exact HX.out | apply below_alloc | apply pw_below_drewN | apply below_drew1))); (rintro e w5 ⟨rfl, hb⟩); (have kH : w5.heap[wr.heap.size]? = some (.cells #[.int .i64 (rd_T29 l i).f0, .int .i64 (rd_T29 l i).f1, .int .i64 (rd_T29 l i).f2] 29) := (fun h => (hb.block _ (Array.getElem?_eq_some_iff.1 h).1).trans h) (by assumption)); (have k0 : w5.cell? ⟨wr.heap.size, 0, none⟩ = some (.int .i64 (rd_T29 l i).f0) := (fun h => (hb.cell (World.block_lt_of_cell? _ _ h)).trans h) (by assumption)); (have k1 : w5.cell? ⟨wr.heap.size, 1, none⟩ = some (.int .i64 (rd_T29 l i).f1) := (fun h => (hb.cell (World.block_lt_of_cell? _ _ h)).trans h) (by assumption)); (have k2 : w5.cell? ⟨wr.heap.size, 2, none⟩ = some (.int .i64 (rd_T29 l i).f2) := (fun h => (hb.cell (World.block_lt_of_cell? _ _ h)).trans h) (by assumption)); (have HW := Aside0.mk (below_step (by repeat (first | exact HW.out | apply below_alloc | apply pw_below_drewN | apply below_drew1)) hb)); (have HX := Aside0.mk (below_step (by repeat (first | exact HX.out | apply below_alloc | apply pw_below_drewN | apply below_drew1)) hb)); clear hb)
               | ((go_at_call 19); (refine (number_calls (rd_T29 l i).f2 hx0.2.2 _ ?ht).mono ?_); (case ht => exact hT _ (by repeat (first | exact HX.out | apply below_alloc | apply pw_below_drewN | apply below_drew1))); (rintro e w5 ⟨rfl, hb⟩); (have kH : w5.heap[wr.heap.size]? = some (.cells #[.int .i64 (rd_T29 l i).f0, .int .i64 (rd_T29 l i).f1, .int .i64 (rd_T29 l i).f2] 29) := (fun h => (hb.block _ (Array.getElem?_eq_some_iff.1 h).1).trans h) (by assumption)); (have k0 : w5.cell? ⟨wr.heap.size, 0, none⟩ = some (.int .i64 (rd_T29 l i).f0) := (fun h => (hb.cell (World.block_lt_of_cell? _ _ h)).trans h) (by assumption)); (have k1 : w5.cell? ⟨wr.heap.size, 1, none⟩ = some (.int .i64 (rd_T29 l i).f1) := (fun h => (hb.cell (World.block_lt_of_cell? _ _ h)).trans h) (by assumption)); (have k2 : w5.cell? ⟨wr.heap.size, 2, none⟩ = some (.int .i64 (rd_T29 l i).f2) := (fun h => (hb.cell (World.block_lt_of_cell? _ _ h)).trans h) (by assumption)); (have HW := Aside0.mk (below_step (by repeat (first | exact HW.out | apply below_alloc | apply pw_below_drewN | apply below_drew1)) hb)); (have HX := Aside0.mk (below_step (by repeat (first | exact HX.out | apply below_alloc | apply pw_below_drewN | apply below_drew1)) hb)); clear hb)
               | ((go_at_call 18); (refine (WriteString w.heap.size w.heap.size _ _ _ (isB_below HI.out (by repeat (first | exact HW.out | apply below_alloc | apply pw_below_drewN | apply below_drew1))) ?hh (HX.out).size).mono ?_); (case hh => exact room n hn l hl hx i.toNat _ hx0); (rintro e w6 ⟨rfl, hI6, hb6, ho6⟩); (have kH : w6.heap[wr.heap.size]? = some (.cells #[.int .i64 (rd_T29 l i).f0, .int .i64 (rd_T29 l i).f1, .int .i64 (rd_T29 l i).f2] 29) := ho6 _ _ _ _ (by assumption) (by decide) (Nat.ne_of_gt HL.out)); (have k0 : w6.cell? ⟨wr.heap.size, 0, none⟩ = some (.int .i64 (rd_T29 l i).f0) := Lib.cell_of_heap kH 0); (have k1 : w6.cell? ⟨wr.heap.size, 1, none⟩ = some (.int .i64 (rd_T29 l i).f1) := Lib.cell_of_heap kH 1); (have k2 : w6.cell? ⟨wr.heap.size, 2, none⟩ = some (.int .i64 (rd_T29 l i).f2) := Lib.cell_of_heap kH 2); (have HI6 := Aside0.mk hI6); (have HX6 := Aside0.mk (Below.trans (by repeat (first | exact HX.out | apply below_alloc | apply pw_below_drewN | apply below_drew1)) hb6)); clear hI6 hb6 ho6))
      go_wp2
      go_roundg (gk - 1)
      case measure => have := HN.out; omega
      case rel =>
        obtain ⟨q0, q1, q2⟩ := HN.out
        refine ⟨i + 1, rfl, by omega, by omega, ⟨?_⟩, HX6⟩
        have e : (i + 1).toNat = i.toNat + 1 := by omega
        rw [e, bodyB_take n l i.toNat (by omega), Lib.byteCells_append]
        have ei : ((i.toNat : Nat) : Int) = i := Int.toNat_of_nonneg q0
        rw [ei]
        exact Or.inr HI6.out
    · have hd : decide (i < (l.length : Int)) = false := decide_eq_false hi
      have e : l.take i.toNat = l := List.take_of_length_le (by omega)
      go_wp2_with (go_at_call 20; refine (Tryd.Builder_String_any w.heap.size w.heap.size _ _ HI.out HB.out.size).mono ?_)
      rintro _ w3 rfl hb3
      have hbl := bodyB_len n hn l hx
      have tE : ¬ ((bodyB n l).length + 4 > 9223372036854775807) := by omega
      go_wp2
      go_ret
      exact ⟨rfl, HB.out.trans hb3⟩
def showB (n : Int) (l : List S29) : ByteArray := ⟨(bodyB n l).toArray⟩ ++ ⟨#[101, 110, 100, 10]⟩
def points_Show.f (a0 : Int) (l1 : List (S29)) : Option ByteArray := if In64 a0 ∧ l1.length ≤ 1000 ∧ (∀ x ∈ l1, In64 x.f0 ∧ In64 x.f1 ∧ In64 x.f2) then some (showB a0 l1) else none
theorem points_Show.calls (a0 : Int) (A1 : Option Addr) (c1 : Nat) (l1 : List (S29)) (r : ByteArray) (w : World) (htab : Tab w) (hr1 : Kd.C k29 w A1 l1.length l1) (hc1 : l1.length ≤ c1) (h : points_Show.f a0 l1 = some r) :
    Calls Tryd.prog 6 #[.int .i64 a0, .slice A1 l1.length c1] w fun e w' => e = .returned (.string r) ∧ Below w.heap.size w w' := by
  unfold points_Show.f at h
  by_cases hc : In64 a0 ∧ l1.length ≤ 1000 ∧ (∀ x ∈ l1, In64 x.f0 ∧ In64 x.f1 ∧ In64 x.f2)
  · rw [if_pos hc] at h
    obtain rfl := Option.some.inj h
    exact Show_calls a0 hc.1 A1 c1 l1 hc.2.1 hc.2.2 w htab hr1 hc1
  · rw [if_neg hc] at h
    exact absurd h (by simp)

/-! ### zelligeref03_Trim: function 42 -/
def zelligeref03_Trim.l0 : Nat → List Int → Int → Option (List Int)
  | 0, _, _ => none
  | k + 1, x0, x3 => if x3 > 0 then (if 0 ≤ (wrap64 (x3 - 1)) then (if (wrap64 (x3 - 1)) < (x0.length : Int) then (if (rd x0 (wrap64 (x3 - 1))) = 0 then (zelligeref03_Trim.l0 k x0 (wrap64 (x3 - 1))) else (if 0 ≤ x3 then (if x3 ≤ (x0.length : Int) then (some (x0.take (x3 : Int).toNat)) else (none)) else (none))) else (none)) else (none)) else (if 0 ≤ x3 then (if x3 ≤ (x0.length : Int) then (some (x0.take (x3 : Int).toNat)) else (none)) else (none))
def zelligeref03_Trim.f (k : Nat) (l0 : List Int) : Option (List Int) := zelligeref03_Trim.l0 k l0 (l0.length : Int)
theorem zelligeref03_Trim.mono_l : ∀ k, (∀ y0 y1, LeO (zelligeref03_Trim.l0 k y0 y1) (zelligeref03_Trim.l0 (k + 1) y0 y1))
  | 0 => fun _ _ r h => by simp [zelligeref03_Trim.l0] at h
  | k + 1 => by
    have ih0 := zelligeref03_Trim.mono_l k
    · intro y0 y1
      unfold zelligeref03_Trim.l0
      repeat' first
      | (with_reducible exact ih0 _ _)
      | (with_reducible exact LeO.refl _)
      | (with_reducible exact LeO.none _)
      | (with_reducible refine LeO.ite ?_ ?_)
      | (with_reducible refine LeO.bind ?_ (fun _ => ?_))
      | exact ih0 _ _
      | exact LeO.none _
      | refine LeO.ite ?_ ?_
      | refine LeO.bind ?_ (fun _ => ?_)
theorem zelligeref03_Trim.mono : ∀ a0 k, LeO (zelligeref03_Trim.f k a0) (zelligeref03_Trim.f (k + 1) a0) := by
  intro a0 k
  have ih0 := zelligeref03_Trim.mono_l k
  unfold zelligeref03_Trim.f
  repeat' first
      | (with_reducible exact ih0 _ _)
      | (with_reducible exact LeO.refl _)
      | (with_reducible exact LeO.none _)
      | (with_reducible refine LeO.ite ?_ ?_)
      | (with_reducible refine LeO.bind ?_ (fun _ => ?_))
      | exact ih0 _ _
      | exact LeO.none _
      | refine LeO.ite ?_ ?_
      | refine LeO.bind ?_ (fun _ => ?_)
set_option maxHeartbeats 8000000 in
set_option maxRecDepth 100000 in
theorem zelligeref03_Trim.calls (k : Nat) (P0_ : Nat → Prop) (A0 : Option Addr) (c0 : Nat) (l0 : List Int) (r : List Int) (w : World) (hs0 : Kd.V (Kd.int .i64) 3 w w.heap.size (fun k_ => P0_ k_) (.slice A0 l0.length c0) l0) (h : zelligeref03_Trim.f k l0 = some r) :
    Calls Tryd.prog 42 #[.slice A0 l0.length c0] w fun e w' => ∃ v0_ : Value, e = .returned (v0_) ∧ Kd.V (Kd.int .i64) 3 w' w.heap.size (fun k_ => (P0_ k_ ∨ w.heap.size ≤ k_)) v0_ r ∧ Below w.heap.size w w' := by
  have HO0 := Aside0.mk (show Kd.V (Kd.int .i64) 3 w w.heap.size (fun k_ => (P0_ k_ ∨ w.heap.size ≤ k_)) (.slice A0 l0.length c0) l0 from Kd.V_mono hs0 (fun k_ hk => .inl hk))
  have HB := Aside0.mk (Below.refl w.heap.size w)
  have H : (zelligeref03_Trim.l0 k l0 (l0.length : Int)) = some r := h
  clear h
  have H' := Aside0.mk H
  clear H
  go_enter Tryd.func42, Tryd.ntmps42
  go_wp2
  go_loopg [3] k (fun kq v3 w' => ∃ (x3_1 : Int), v3 = .int .i64 x3_1 ∧ Aside0 (zelligeref03_Trim.l0 kq l0 x3_1 = some r) ∧ Aside0 (kq ≤ k) ∧ Aside0 (Kd.V (Kd.int .i64) 3 w' w.heap.size (fun k_ => (P0_ k_ ∨ w.heap.size ≤ k_)) (.slice A0 l0.length c0) l0) ∧ Aside0 (Below w.heap.size w w'))
  case atStart => exact ⟨((l0.length : Int)), (by first | rfl | (simp; done) | (simp [*]; done)), H', ⟨Nat.le_refl _⟩, ⟨by (with_reducible repeat (first | apply Kd.V_alloc | apply Kd.V_drewN | apply Kd.V_drew)); exact HO0.out⟩, ⟨by repeat (first | (with_reducible first | exact HB.out | apply below_alloc | apply pw_below_drewN | apply below_drew1) | exact HB.out)⟩⟩
  case round =>
    clear H'
    obtain ⟨x3_1, rfl, HA, HK1, HO_0, HB⟩ := hrel
    cases gk with
    | zero => exact absurd HA.out (by simp [zelligeref03_Trim.l0])
    | succ k1 =>
      have H := HA.out
      clear HA
      simp only [zelligeref03_Trim.l0] at H
      by_cases c2 : x3_1 > 0
      · rw [if_pos c2] at H
        have c2b0 : decide (0 < x3_1) = true := decide_eq_true c2
        clear c2
        obtain ⟨ji3, hji3⟩ : ∃ j_ : Int, (wrap64 (x3_1 - 1)) = j_ := ⟨_, rfl⟩
        replace H : (if 0 ≤ (ji3) then (if (ji3) < (l0.length : Int) then (if (rd l0 (ji3)) = 0 then (zelligeref03_Trim.l0 k1 l0 ji3) else (if 0 ≤ x3_1 then (if x3_1 ≤ (l0.length : Int) then (some (l0.take (x3_1 : Int).toNat)) else (none)) else (none))) else (none)) else (none)) = some r := by first | (rw [hji3] at H; exact H) | (simp only [hji3] at H ⊢; exact H)
        have hji3w : (IntKind.i64.wrap (x3_1 - 1)) = ji3 := (i64_w _).trans hji3
        by_cases c4 : 0 ≤ (ji3)
        · rw [if_pos c4] at H
          have c4b0 : decide (0 ≤ (ji3)) = true := decide_eq_true c4
          clear c4
          by_cases c5 : (ji3) < (l0.length : Int)
          · rw [if_pos c5] at H
            have c5b0 : decide ((ji3) < (l0.length : Int)) = true := decide_eq_true c5
            clear c5
            by_cases c6 : (rd l0 (ji3)) = 0
            · rw [if_pos c6] at H
              have c6b0 : ((rd l0 (ji3)) == 0) = true := beq_iff_eq.mpr c6
              have c6b1 : ((rd l0 (ji3)) != 0) = false := bne_eq_false_iff_eq.mpr c6
              clear c6
              have H' := Aside0.mk H
              clear H
              have p117 : 0 ≤ ((ji3) : Int) := of_decide_eq_true (by first | (with_reducible assumption) | assumption)
              have q117 : (ji3) < (l0.length : Int) := of_decide_eq_true (by first | (with_reducible assumption) | assumption)
              obtain ⟨ad117, e117, hx117_0⟩ := Kd.at_int (Kd.V_reads' HO_0.out).2.2 (ji3) p117 q117
              cases e117
              replace p117 := eq_true p117
              replace q117 := eq_true q117
              go_wp2
              go_roundg k1
              case measure => have := HK1.out; omega
              case rel => exact ⟨(ji3), (by first | rfl | (simp; done) | (simp only [← hji3] <;> (first | rfl | simp)) | (simp [*]; done)), H', ⟨by have := HK1.out; omega⟩, ⟨by (with_reducible repeat (first | apply Kd.V_alloc | apply Kd.V_drewN | apply Kd.V_drew)); exact HO_0.out⟩, ⟨by repeat (first | (with_reducible first | exact HB.out | apply below_alloc | apply pw_below_drewN | apply below_drew1) | exact HB.out)⟩⟩
            · rw [if_neg c6] at H
              have c6b0 : ((rd l0 (ji3)) == 0) = false := beq_eq_false_iff_ne.mpr c6
              have c6b1 : ((rd l0 (ji3)) != 0) = true := bne_iff_ne.mpr c6
              by_cases c7 : 0 ≤ x3_1
              · rw [if_pos c7] at H
                have c7b0 := eq_true c7
                have c7b1 : decide (0 ≤ x3_1) = true := decide_eq_true c7
                clear c7
                by_cases c8 : x3_1 ≤ (l0.length : Int)
                · rw [if_pos c8] at H
                  have c8b0 := eq_true c8
                  have c8b1 : decide (x3_1 ≤ (l0.length : Int)) = true := decide_eq_true c8
                  clear c8
                  obtain ⟨y118, hy118⟩ : ∃ y_ : List Int, y_ = (l0.take (x3_1 : Int).toNat) := ⟨_, rfl⟩
                  replace H : (some y118) = some r := by first | (rw [hy118]; with_reducible exact H) | (have H2_ := (Option.bind_some _ _).symm.trans H; rw [hy118]; with_reducible exact H2_) | (have H2_ := (Option.bind_some _ _).symm.trans H; with_reducible exact H2_) | with_reducible exact H | (rw [hy118]; exact H) | exact H
                  have Ny118 := Aside0.mk hy118
                  clear hy118
                  obtain rfl := Option.some.inj H
                  have p117 : 0 ≤ ((ji3) : Int) := of_decide_eq_true (by first | (with_reducible assumption) | assumption)
                  have q117 : (ji3) < (l0.length : Int) := of_decide_eq_true (by first | (with_reducible assumption) | assumption)
                  obtain ⟨ad117, e117, hx117_0⟩ := Kd.at_int (Kd.V_reads' HO_0.out).2.2 (ji3) p117 q117
                  cases e117
                  replace p117 := eq_true p117
                  replace q117 := eq_true q117
                  have q9 : (x3_1 : Int) ≤ ((l0.length : Int) : Int) := of_decide_eq_true (by first | (with_reducible assumption) | assumption)
                  obtain ⟨i09, hi09, _, hsz9, _⟩ := info_parts info3
                  have hroom9 : l0.length ≤ c0 := (Kd.V_reads' HO_0.out).2.1
                  have hC9 : Kd.F (Kd.int .i64) _ _ (some ad117) l0.length l0 := (Kd.V_at (base := w.heap.size) HO_0.out).2.2
                  have hcut9 := cut_to (P := Tryd.prog) 71 3 .i64 Tryd.underlying71 hi09 (some ad117) l0.length c0 x3_1 (of_decide_eq_true (by first | (with_reducible assumption) | assumption)) q9 hroom9
                  have hr9 := Kd.F_take (m := (x3_1 : Int).toNat) hC9 (by omega)
                  have hy9 : y118.length = (x3_1 : Int).toNat := (by rw [Ny118.out, List.length_take]; omega)
                  rw [← Ny118.out] at hr9
                  rw [← hy9] at hcut9
                  have HO122 := Aside0.mk (show Kd.V (Kd.int .i64) 3 _ w.heap.size _ (.slice (some ad117) y118.length c0) y118 from Kd.V_mk (by omega) hr9)
                  have HC122 := Aside0.mk (show y118.length ≤ c0 from by omega)
                  clear hr9 hC9 hroom9 hi09 hsz9
                  have KY9 := Aside0.mk hy9
                  clear hy9
                  replace q9 := eq_true q9
                  go_wp2
                  go_ret
                  exact ⟨_, by first | rfl | (simp [errW_none, errW_some] <;> rfl) | (simp only [← hji3]; first | rfl | (simp [errW_none, errW_some] <;> rfl)) | (simp [*, errW_none, errW_some] <;> rfl), by (with_reducible repeat (first | apply Kd.V_alloc | apply Kd.V_drewN | apply Kd.V_drew)); exact HO122.out, by repeat (first | (with_reducible first | exact HB.out | apply below_alloc | apply pw_below_drewN | apply below_drew1) | exact HB.out)⟩
                · rw [if_neg c8] at H
                  exact absurd H (by simp)
              · rw [if_neg c7] at H
                exact absurd H (by simp)
          · rw [if_neg c5] at H
            exact absurd H (by simp)
        · rw [if_neg c4] at H
          exact absurd H (by simp)
      · rw [if_neg c2] at H
        have c2b0 : decide (0 < x3_1) = false := decide_eq_false c2
        clear c2
        by_cases c10 : 0 ≤ x3_1
        · rw [if_pos c10] at H
          have c10b0 := eq_true c10
          have c10b1 : decide (0 ≤ x3_1) = true := decide_eq_true c10
          clear c10
          by_cases c11 : x3_1 ≤ (l0.length : Int)
          · rw [if_pos c11] at H
            have c11b0 := eq_true c11
            have c11b1 : decide (x3_1 ≤ (l0.length : Int)) = true := decide_eq_true c11
            clear c11
            obtain ⟨y123, hy123⟩ : ∃ y_ : List Int, y_ = (l0.take (x3_1 : Int).toNat) := ⟨_, rfl⟩
            replace H : (some y123) = some r := by first | (rw [hy123]; with_reducible exact H) | (have H2_ := (Option.bind_some _ _).symm.trans H; rw [hy123]; with_reducible exact H2_) | (have H2_ := (Option.bind_some _ _).symm.trans H; with_reducible exact H2_) | with_reducible exact H | (rw [hy123]; exact H) | exact H
            have Ny123 := Aside0.mk hy123
            clear hy123
            obtain rfl := Option.some.inj H
            have q12 : (x3_1 : Int) ≤ ((l0.length : Int) : Int) := of_decide_eq_true (by first | (with_reducible assumption) | assumption)
            obtain ⟨i012, hi012, _, hsz12, _⟩ := info_parts info3
            have hroom12 : l0.length ≤ c0 := (Kd.V_reads' HO_0.out).2.1
            have hC12 : Kd.F (Kd.int .i64) _ _ A0 l0.length l0 := (Kd.V_at (base := w.heap.size) HO_0.out).2.2
            have hcut12 := cut_to (P := Tryd.prog) 71 3 .i64 Tryd.underlying71 hi012 A0 l0.length c0 x3_1 (of_decide_eq_true (by first | (with_reducible assumption) | assumption)) q12 hroom12
            have hr12 := Kd.F_take (m := (x3_1 : Int).toNat) hC12 (by omega)
            have hy12 : y123.length = (x3_1 : Int).toNat := (by rw [Ny123.out, List.length_take]; omega)
            rw [← Ny123.out] at hr12
            rw [← hy12] at hcut12
            have HO127 := Aside0.mk (show Kd.V (Kd.int .i64) 3 _ w.heap.size _ (.slice A0 y123.length c0) y123 from Kd.V_mk (by omega) hr12)
            have HC127 := Aside0.mk (show y123.length ≤ c0 from by omega)
            clear hr12 hC12 hroom12 hi012 hsz12
            have KY12 := Aside0.mk hy12
            clear hy12
            replace q12 := eq_true q12
            go_wp2
            go_ret
            exact ⟨_, by first | rfl | (simp [errW_none, errW_some] <;> rfl) | (simp [*, errW_none, errW_some] <;> rfl), by (with_reducible repeat (first | apply Kd.V_alloc | apply Kd.V_drewN | apply Kd.V_drew)); exact HO127.out, by repeat (first | (with_reducible first | exact HB.out | apply below_alloc | apply pw_below_drewN | apply below_drew1) | exact HB.out)⟩
          · rw [if_neg c11] at H
            exact absurd H (by simp)
        · rw [if_neg c10] at H
          exact absurd H (by simp)

end Go.Proofs.YtmfmojldebhboaaDoor.ZS
