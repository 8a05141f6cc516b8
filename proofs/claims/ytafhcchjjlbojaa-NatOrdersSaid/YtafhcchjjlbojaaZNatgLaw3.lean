-- printed by zprint.py, a program of this session's
import Derived.Test.YtafhcchjjlbojaaZNat0
import Derived.Test.YtafhcchjjlbojaaZNatgDiv
import Derived.Test.YtafhcchjjlbojaaZNatgParse
namespace Go.Proofs.Ytafhcchjjlbojaa.ZNat
open Go.RowKit Go.Proofs.YtafhcchjjlbojaaW.PrintWords Go.Proofs.YtafhcchjjlbojaaW.PrintLast Go.Proofs.YtafhcchjjlbojaaW.PrintMore
set_option linter.unusedVariables false
set_option linter.unusedSimpArgs false

/-! ### zelligelaw03_short: function 24 -/
def zelligelaw03_short.f (l0 : List Int) : Option (List Int) := if (l0.length : Int) > 20 then (if 20 ≤ (l0.length : Int) then ((some (l0.take 20 : List Int)).bind fun y101 => ((some (([] : List Int) : List Int)).bind fun y105 => (if y105.length + y101.length < 35184372088832 then (some (y105 ++ y101)) else (none)))) else (none)) else ((some (([] : List Int) : List Int)).bind fun y111 => (if y111.length + l0.length < 35184372088832 then (some (y111 ++ l0)) else (none)))
set_option maxHeartbeats 8000000 in
set_option maxRecDepth 100000 in
theorem zelligelaw03_short.calls (A0 : Option Addr) (c0 : Nat) (l0 : List Int) (r : List Int) (w : World) (hr0 : Kd.C (Kd.int .u32) w A0 l0.length l0) (hc0 : l0.length ≤ c0) (h : zelligelaw03_short.f l0 = some r) :
    Calls Try.prog 24 #[.slice A0 l0.length c0] w fun e w' => ∃ v0_ : Value, e = .returned (v0_) ∧ Kd.R (Kd.int .u32) 53 w' w.heap.size (fun _ => True) v0_ r ∧ Below w.heap.size w w' := by
  have HR0 := Aside0.mk hr0
  have HC0 := Aside0.mk hc0
  clear hr0 hc0
  have HB := Aside0.mk (Below.refl w.heap.size w)
  have H : (if (l0.length : Int) > 20 then (if 20 ≤ (l0.length : Int) then ((some (l0.take 20 : List Int)).bind fun y101 => ((some (([] : List Int) : List Int)).bind fun y105 => (if y105.length + y101.length < 35184372088832 then (some (y105 ++ y101)) else (none)))) else (none)) else ((some (([] : List Int) : List Int)).bind fun y111 => (if y111.length + l0.length < 35184372088832 then (some (y111 ++ l0)) else (none)))) = some r := h
  clear h
  by_cases c2 : (l0.length : Int) > 20
  · rw [if_pos c2] at H
    have c2b0 : decide (20 < (l0.length : Int)) = true := decide_eq_true c2
    have c2b1 : decide (20 < l0.length) = true := decide_eq_true (by omega)
    clear c2
    by_cases c3 : 20 ≤ (l0.length : Int)
    · rw [if_pos c3] at H
      have c3b0 := eq_true c3
      have c3b1 : decide (20 ≤ (l0.length : Int)) = true := decide_eq_true c3
      clear c3
      obtain ⟨y101, hy101⟩ : ∃ y_ : List Int, y_ = (l0.take 20) := ⟨_, rfl⟩
      replace H : ((some (([] : List Int) : List Int)).bind fun y105 => (if y105.length + y101.length < 35184372088832 then (some (y105 ++ y101)) else (none))) = some r := by (have H2_ := (Option.bind_some _ _).symm.trans H; rw [hy101]; with_reducible exact H2_)
      have Ny101 := Aside0.mk hy101
      clear hy101
      obtain ⟨y105, hy105⟩ : ∃ y_ : List Int, y_ = (([] : List Int)) := ⟨_, rfl⟩
      replace H : (if y105.length + y101.length < 35184372088832 then (some (y105 ++ y101)) else (none)) = some r := by (have H2_ := (Option.bind_some _ _).symm.trans H; rw [hy105]; with_reducible exact H2_)
      have Ny105 := Aside0.mk hy105
      clear hy105
      by_cases c4 : y105.length + y101.length < 35184372088832
      · rw [if_pos c4] at H
        have LMc4 := Aside0.mk c4
        clear c4
        obtain ⟨y108, hy108⟩ : ∃ y_ : List Int, y_ = (y105 ++ y101) := ⟨_, rfl⟩
        replace H : (some y108) = some r := by (rw [hy108]; with_reducible exact H)
        have Ny108 := Aside0.mk hy108
        clear hy108
        obtain rfl := Option.some.inj H
        have q5 : (20 : Int) ≤ ((l0.length : Int) : Int) := of_decide_eq_true (by (with_reducible assumption))
        obtain ⟨i05, hi05, _, hsz5, _⟩ := info_parts info53
        have hroom5 : l0.length ≤ c0 := HC0.out
        have hC5 : Kd.C (Kd.int .u32) _ A0 l0.length l0 := HR0.out
        have hcut5 := cut_to (P := Try.prog) 36 53 .i64 Try.underlying36 hi05 A0 l0.length c0 20 (by omega) q5 hroom5
        have hr5 := Kd.C_take (m := 20) hC5 (by omega)
        have hy5 : y101.length = (20 : Int).toNat := (by rw [Ny101.out, List.length_take]; omega)
        rw [← Ny101.out] at hr5
        rw [← hy5] at hcut5
        have HR104 := Aside0.mk hr5
        have HC104 := Aside0.mk (show y101.length ≤ c0 from by omega)
        clear hr5 hC5 hroom5 hi05 hsz5
        have KY5 := Aside0.mk hy5
        clear hy5
        replace q5 := eq_true q5
        go_enter Try.func24, Try.ntmps24
        go_wp2_with (first | ((with_reducible refine gate_dst (N := 8) rfl ?_); refine Kd.R_lit (Kd.int .u32) _ 53 ?hg (N := 8) ?hd (xs := ([] : List Int)) (inner := []) (ok := fun _ => True) (okp := fun _ => True) ?hr ?hp (fun _ hk => hk) trivial (Below.refl _ _) (Nat.le_refl _) (by simp) ?_; (case hd => rfl); (case hg => rfl); (case hr => (go_simp; done)); (case hp => exact (Reps.none _ _)); intro v106 w6 ho7 hb hg_ hnew_; clear hg_ hnew_; (rw [← Ny105.out] at ho7); have n0_ := Aside0.mk (Kd.R_lower ho7 (below_size (by with_reducible exact HB.out))); have n1_ := Aside0.mk (below_step (by with_reducible exact HB.out) hb); clear HB; have HO107 := n0_; have HB := n1_; clear n0_ n1_; clear hb ho7) | ((with_reducible refine gate_builtin (b := .append) (xs := #[.tmp 8, .tmp 9]) rfl ?_); at_builtin; refine Kd.R_append_rows (Kd.int .u32) (w0 := w) w.heap.size rfl (.tmp 8) (.tmp 9) 36 53 (.int .u32 0) 4 rfl Try.underlying36 info53 rfl (by decide) (by omega) v106 y105 y101 _ _ _ (fun _ => True) (fun _ => False) rfl rfl ?aO ?aR (fun _ _ h => h) (fun _ h => h.elim) ?aF ?aB ?aS ?aL ?_; (case aR => repeat (exact (Kd.C_below HR104.out HB.out))); (case aB => exact (by with_reducible exact HB.out)); (case aF => exact (fun _ _ => trivial)); (case aO => exact (by exact HO107.out)); (case aS => exact (below_size (by with_reducible exact HB.out))); (case aL => have := LMc4.out; omega); intro v109 w8 ho hb hg hat; rw [← Ny108.out] at ho; have n0_ := Aside0.mk (hb); have n1_ := Aside0.mk (ho); clear HB; clear HO107; have HB := n0_; have HO110 := n1_; clear n0_ n1_; clear ho hb hg hat))
        go_ret
        exact ⟨_, by rfl, by exact HO110.out, by with_reducible exact HB.out⟩
      · rw [if_neg c4] at H
        exact absurd H (by simp)
    · rw [if_neg c3] at H
      exact absurd H (by simp)
  · rw [if_neg c2] at H
    have c2b0 : decide (20 < (l0.length : Int)) = false := decide_eq_false c2
    have c2b1 : decide (20 < l0.length) = false := decide_eq_false (by omega)
    clear c2
    obtain ⟨y111, hy111⟩ : ∃ y_ : List Int, y_ = (([] : List Int)) := ⟨_, rfl⟩
    replace H : (if y111.length + l0.length < 35184372088832 then (some (y111 ++ l0)) else (none)) = some r := by (have H2_ := (Option.bind_some _ _).symm.trans H; rw [hy111]; with_reducible exact H2_)
    have Ny111 := Aside0.mk hy111
    clear hy111
    by_cases c9 : y111.length + l0.length < 35184372088832
    · rw [if_pos c9] at H
      have LMc9 := Aside0.mk c9
      clear c9
      obtain ⟨y114, hy114⟩ : ∃ y_ : List Int, y_ = (y111 ++ l0) := ⟨_, rfl⟩
      replace H : (some y114) = some r := by (rw [hy114]; with_reducible exact H)
      have Ny114 := Aside0.mk hy114
      clear hy114
      obtain rfl := Option.some.inj H
      go_enter Try.func24, Try.ntmps24
      go_wp2_with (first | ((with_reducible refine gate_dst (N := 8) rfl ?_); refine Kd.R_lit (Kd.int .u32) _ 53 ?hg (N := 8) ?hd (xs := ([] : List Int)) (inner := []) (ok := fun _ => True) (okp := fun _ => True) ?hr ?hp (fun _ hk => hk) trivial (Below.refl _ _) (Nat.le_refl _) (by simp) ?_; (case hd => rfl); (case hg => rfl); (case hr => (go_simp; done)); (case hp => exact (Reps.none _ _)); intro v112 w10 ho11 hb hg_ hnew_; clear hg_ hnew_; (rw [← Ny111.out] at ho11); have n0_ := Aside0.mk (Kd.R_lower ho11 (below_size (by with_reducible exact HB.out))); have n1_ := Aside0.mk (below_step (by with_reducible exact HB.out) hb); clear HB; have HO113 := n0_; have HB := n1_; clear n0_ n1_; clear hb ho11) | ((with_reducible refine gate_builtin (b := .append) (xs := #[.tmp 8, .tmp 9]) rfl ?_); at_builtin; refine Kd.R_append_rows (Kd.int .u32) (w0 := w) w.heap.size rfl (.tmp 8) (.tmp 9) 36 53 (.int .u32 0) 4 rfl Try.underlying36 info53 rfl (by decide) (by omega) v112 y111 l0 _ _ _ (fun _ => True) (fun _ => False) rfl rfl ?aO ?aR (fun _ _ h => h) (fun _ h => h.elim) ?aF ?aB ?aS ?aL ?_; (case aR => repeat (exact (Kd.C_below HR0.out HB.out))); (case aB => exact (by with_reducible exact HB.out)); (case aF => exact (fun _ _ => trivial)); (case aO => exact (by exact HO113.out)); (case aS => exact (below_size (by with_reducible exact HB.out))); (case aL => have := LMc9.out; omega); intro v115 w12 ho hb hg hat; rw [← Ny114.out] at ho; have n0_ := Aside0.mk (hb); have n1_ := Aside0.mk (ho); clear HB; clear HO113; have HB := n0_; have HO116 := n1_; clear n0_ n1_; clear ho hb hg hat))
      go_ret
      exact ⟨_, by rfl, by exact HO116.out, by with_reducible exact HB.out⟩
    · rw [if_neg c9] at H
      exact absurd H (by simp)

/-! ### zelligelaw03_lives: function 27 -/
def zelligelaw03_lives.f (k : Nat)  : Option (Bool) := (nat_Parse.f k (⟨#[49, 48, 48, 48, 48, 48, 48, 48, 48, 48, 48, 48, 48, 48, 48, 48, 48, 48, 48, 48, 48]⟩ : ByteArray)).bind fun bt300 => ((nat_Of.f k 3).bind fun t304 => ((nat_DivMod.f k bt300.1 t304).bind fun bt307 => (if bt300.2 = 0 then (if bt307.2.2 = 0 then ((nat_Show.f k bt307.1).bind fun t314 => (if t314.toList = ([51, 51, 51, 51, 51, 51, 51, 51, 51, 51, 51, 51, 51, 51, 51, 51, 51, 51, 51, 51] : List UInt8) then ((nat_Show.f k bt307.2.1).bind fun t315 => (some (t315.toList == ([49] : List UInt8)))) else (some false))) else (some false)) else (some false))))
theorem zelligelaw03_lives.mono : ∀ k, LeO (zelligelaw03_lives.f k ) (zelligelaw03_lives.f (k + 1) ) := by
  intro  k
  unfold zelligelaw03_lives.f
  repeat' first
      | (with_reducible exact nat_DivMod.mono _ _ _)
      | (with_reducible exact nat_Of.mono _ _)
      | (with_reducible exact nat_Parse.mono _ _)
      | (with_reducible exact nat_Show.mono _ _)
      | (with_reducible exact LeO.refl _)
      | (with_reducible refine LeO.ite ?_ ?_)
      | (with_reducible refine LeO.bind ?_ (fun _ => ?_))
set_option maxHeartbeats 8000000 in
set_option maxRecDepth 100000 in
theorem zelligelaw03_lives.calls (k : Nat)  (r : Bool) (w : World) (h : zelligelaw03_lives.f k  = some r) :
    Calls Try.prog 27 #[] w fun e w' => e = .returned (.bool r) ∧ Below w.heap.size w w' := by
  have HB := Aside0.mk (Below.refl w.heap.size w)
  have H : ((nat_Parse.f k (⟨#[49, 48, 48, 48, 48, 48, 48, 48, 48, 48, 48, 48, 48, 48, 48, 48, 48, 48, 48, 48, 48]⟩ : ByteArray)).bind fun bt300 => ((nat_Of.f k 3).bind fun t304 => ((nat_DivMod.f k bt300.1 t304).bind fun bt307 => (if bt300.2 = 0 then (if bt307.2.2 = 0 then ((nat_Show.f k bt307.1).bind fun t314 => (if t314.toList = ([51, 51, 51, 51, 51, 51, 51, 51, 51, 51, 51, 51, 51, 51, 51, 51, 51, 51, 51, 51] : List UInt8) then ((nat_Show.f k bt307.2.1).bind fun t315 => (some (t315.toList == ([49] : List UInt8)))) else (some false))) else (some false)) else (some false))))) = some r := h
  clear h
  obtain ⟨⟨t300, t301⟩, A1, H⟩ := bindE H
  replace H : ((nat_Of.f k 3).bind fun t304 => ((nat_DivMod.f k t300 t304).bind fun bt307 => (if t301 = 0 then (if bt307.2.2 = 0 then ((nat_Show.f k bt307.1).bind fun t314 => (if t314.toList = ([51, 51, 51, 51, 51, 51, 51, 51, 51, 51, 51, 51, 51, 51, 51, 51, 51, 51, 51, 51] : List UInt8) then ((nat_Show.f k bt307.2.1).bind fun t315 => (some (t315.toList == ([49] : List UInt8)))) else (some false))) else (some false)) else (some false)))) = some r := H
  obtain ⟨t304, A2, H⟩ := bindE H
  obtain ⟨⟨t307, t308, t309⟩, A3, H⟩ := bindE H
  replace H : (if t301 = 0 then (if t309 = 0 then ((nat_Show.f k t307).bind fun t314 => (if t314.toList = ([51, 51, 51, 51, 51, 51, 51, 51, 51, 51, 51, 51, 51, 51, 51, 51, 51, 51, 51, 51] : List UInt8) then ((nat_Show.f k t308).bind fun t315 => (some (t315.toList == ([49] : List UInt8)))) else (some false))) else (some false)) else (some false)) = some r := H
  by_cases c4 : t301 = 0
  · rw [if_pos c4] at H
    have c4b0 : (t301 == 0) = true := beq_iff_eq.mpr c4
    have c4b1 : (t301 != 0) = false := bne_eq_false_iff_eq.mpr c4
    clear c4
    by_cases c5 : t309 = 0
    · rw [if_pos c5] at H
      have c5b0 : (t309 == 0) = true := beq_iff_eq.mpr c5
      have c5b1 : (t309 != 0) = false := bne_eq_false_iff_eq.mpr c5
      clear c5
      obtain ⟨t314, A6, H⟩ := bindE H
      by_cases c7 : t314.toList = ([51, 51, 51, 51, 51, 51, 51, 51, 51, 51, 51, 51, 51, 51, 51, 51, 51, 51, 51, 51] : List UInt8)
      · rw [if_pos c7] at H
        have c7b0 : (t314.toList == ([51, 51, 51, 51, 51, 51, 51, 51, 51, 51, 51, 51, 51, 51, 51, 51, 51, 51, 51, 51] : List UInt8)) = true := beq_iff_eq.mpr c7
        have c7b1 : (t314.toList != ([51, 51, 51, 51, 51, 51, 51, 51, 51, 51, 51, 51, 51, 51, 51, 51, 51, 51, 51, 51] : List UInt8)) = false := bne_eq_false_iff_eq.mpr c7
        clear c7
        obtain ⟨t315, A8, H⟩ := bindE H
        obtain rfl := Option.some.inj H
        go_enter Try.func27, Try.ntmps27
        go_wp2_with (first | ((with_reducible refine gate_callee (f := 31) rfl ?_); refine goesL_ (some 7) rfl rfl Try.func31 (by kernel_rfl) rfl #[.string (⟨#[49, 48, 48, 48, 48, 48, 48, 48, 48, 48, 48, 48, 48, 48, 48, 48, 48, 48, 48, 48, 48]⟩ : ByteArray)] rfl (by (try simp only [List.map_toArray, List.map_cons, List.map_nil]); rfl) ?_; (with_reducible refine (nat_Parse.calls k (⟨#[49, 48, 48, 48, 48, 48, 48, 48, 48, 48, 48, 48, 48, 48, 48, 48, 48, 48, 48, 48, 48]⟩ : ByteArray) t300 t301 _ A1.out).mono ?_); rintro e w9 ⟨v302, rfl, ho0, hb⟩; refine ⟨_, rfl, ?_⟩; have n0_ := Aside0.mk (Kd.R_lower ho0 (below_size (by with_reducible exact HB.out))); have n1_ := Aside0.mk (below_step (by with_reducible exact HB.out) hb); clear HB; have HO303 := n0_; have HB := n1_; clear n0_ n1_; (try clear hb); (try clear ho0)) | ((with_reducible refine gate_callee (f := 33) rfl ?_); refine goesL_ (some 12) rfl rfl Try.func33 (by kernel_rfl) rfl #[.int .u64 3] rfl (by (try simp only [List.map_toArray, List.map_cons, List.map_nil]); rfl) ?_; (with_reducible refine (nat_Of.calls k 3 t304 _ A2.out).mono ?_); rintro e w10 ⟨v305, rfl, ho0, hb⟩; refine ⟨_, rfl, ?_⟩; have n0_ := Aside0.mk (Kd.R_elder' (by exact HO303.out) (Kd.R_base ho0) hb); have n1_ := Aside0.mk (Kd.R_lower (Kd.R_new' ho0 (Kd.R_lt (by exact HO303.out))) (below_size (by with_reducible exact HB.out))); have n2_ := Aside0.mk (below_step (by with_reducible exact HB.out) hb); clear HO303; clear HB; have HO303 := n0_; have HO306 := n1_; have HB := n2_; clear n0_ n1_ n2_; (try clear hb); (try clear ho0); obtain ⟨Ao11, co11, eo11⟩ := Kd.R_slice HO303.out; subst eo11; obtain ⟨Ao12, co12, eo12⟩ := Kd.R_slice HO306.out; subst eo12) | ((with_reducible refine gate_callee (f := 25) rfl ?_); refine goesL_ (some 13) rfl rfl Try.func25 (by kernel_rfl) rfl #[.slice Ao11 t300.length co11, .slice Ao12 t304.length co12] rfl (by (try simp only [List.map_toArray, List.map_cons, List.map_nil]); rfl) ?_; (with_reducible refine (nat_DivMod.calls k _ _ t300 _ _ t304 t307 t308 t309 _ ?side1 ?side2 ?side3 ?side4 A3.out).mono ?_); (case side1 => exact (Kd.R_reads' HO303.out).2.2); (case side2 => exact (Kd.R_reads' HO303.out).2.1); (case side3 => exact (Kd.R_reads' HO306.out).2.2); (case side4 => exact (Kd.R_reads' HO306.out).2.1); rintro e w13 ⟨v310, v312, rfl, ho0, ho1, hb⟩; refine ⟨_, rfl, ?_⟩; have n0_ := Aside0.mk (Kd.R_mono (Kd.R_told (Kd.R_told (Kd.R_old (by exact HO303.out) hb) (Kd.R_base ho0)) (Kd.R_base ho1)) (fun _ h_ => h_.1)); have n1_ := Aside0.mk (Kd.R_mono (Kd.R_told (Kd.R_told (Kd.R_old (by exact HO306.out) hb) (Kd.R_base ho0)) (Kd.R_base ho1)) (fun _ h_ => h_.1)); have n2_ := Aside0.mk (Kd.R_lower (Kd.R_new' (Kd.R_new' ho0 (Kd.R_lt (by exact HO303.out))) (Kd.R_lt (by exact HO306.out))) (below_size (by with_reducible exact HB.out))); have n3_ := Aside0.mk (Kd.R_lower (Kd.R_new' (Kd.R_new' ho1 (Kd.R_lt (by exact HO303.out))) (Kd.R_lt (by exact HO306.out))) (below_size (by with_reducible exact HB.out))); have n4_ := Aside0.mk (below_step (by with_reducible exact HB.out) hb); clear HO303; clear HO306; clear HB; have HO303 := n0_; have HO306 := n1_; have HO311 := n2_; have HO313 := n3_; have HB := n4_; clear n0_ n1_ n2_ n3_ n4_; (try clear hb); (try clear ho0); (try clear ho1); obtain ⟨Ao14, co14, eo14⟩ := Kd.R_slice HO311.out; subst eo14) | (go_at_call 30; (with_reducible refine (nat_Show.calls k _ _ t307 t314 _ ?side1 ?side2 A6.out).mono ?_); (case side1 => exact (Kd.R_reads' HO311.out).2.2); (case side2 => exact (Kd.R_reads' HO311.out).2.1); rintro e w15 ⟨rfl, hb⟩; have n0_ := Aside0.mk (Kd.R_below (by exact HO303.out) hb); have n1_ := Aside0.mk (Kd.R_below (by exact HO306.out) hb); have n2_ := Aside0.mk (Kd.R_below (by exact HO311.out) hb); have n3_ := Aside0.mk (Kd.R_below (by exact HO313.out) hb); have n4_ := Aside0.mk (below_step (by with_reducible exact HB.out) hb); clear HO303; clear HO306; clear HO311; clear HO313; clear HB; have HO303 := n0_; have HO306 := n1_; have HO311 := n2_; have HO313 := n3_; have HB := n4_; clear n0_ n1_ n2_ n3_ n4_; (try clear hb); obtain ⟨Ao16, co16, eo16⟩ := Kd.R_slice HO313.out; subst eo16) | (go_at_call 30; (with_reducible refine (nat_Show.calls k _ _ t308 t315 _ ?side1 ?side2 A8.out).mono ?_); (case side1 => exact (Kd.R_reads' HO313.out).2.2); (case side2 => exact (Kd.R_reads' HO313.out).2.1); rintro e w17 ⟨rfl, hb⟩; have n0_ := Aside0.mk (Kd.R_below (by exact HO303.out) hb); have n1_ := Aside0.mk (Kd.R_below (by exact HO306.out) hb); have n2_ := Aside0.mk (Kd.R_below (by exact HO311.out) hb); have n3_ := Aside0.mk (Kd.R_below (by exact HO313.out) hb); have n4_ := Aside0.mk (below_step (by with_reducible exact HB.out) hb); clear HO303; clear HO306; clear HO311; clear HO313; clear HB; have HO303 := n0_; have HO306 := n1_; have HO311 := n2_; have HO313 := n3_; have HB := n4_; clear n0_ n1_ n2_ n3_ n4_; (try clear hb)))
        go_ret
        exact ⟨by rfl, by with_reducible exact HB.out⟩
      · rw [if_neg c7] at H
        have c7b0 : (t314.toList == ([51, 51, 51, 51, 51, 51, 51, 51, 51, 51, 51, 51, 51, 51, 51, 51, 51, 51, 51, 51] : List UInt8)) = false := beq_eq_false_iff_ne.mpr c7
        have c7b1 : (t314.toList != ([51, 51, 51, 51, 51, 51, 51, 51, 51, 51, 51, 51, 51, 51, 51, 51, 51, 51, 51, 51] : List UInt8)) = true := bne_iff_ne.mpr c7
        obtain rfl := Option.some.inj H
        go_enter Try.func27, Try.ntmps27
        go_wp2_with (first | ((with_reducible refine gate_callee (f := 31) rfl ?_); refine goesL_ (some 7) rfl rfl Try.func31 (by kernel_rfl) rfl #[.string (⟨#[49, 48, 48, 48, 48, 48, 48, 48, 48, 48, 48, 48, 48, 48, 48, 48, 48, 48, 48, 48, 48]⟩ : ByteArray)] rfl (by (try simp only [List.map_toArray, List.map_cons, List.map_nil]); rfl) ?_; (with_reducible refine (nat_Parse.calls k (⟨#[49, 48, 48, 48, 48, 48, 48, 48, 48, 48, 48, 48, 48, 48, 48, 48, 48, 48, 48, 48, 48]⟩ : ByteArray) t300 t301 _ A1.out).mono ?_); rintro e w18 ⟨v302, rfl, ho0, hb⟩; refine ⟨_, rfl, ?_⟩; have n0_ := Aside0.mk (Kd.R_lower ho0 (below_size (by with_reducible exact HB.out))); have n1_ := Aside0.mk (below_step (by with_reducible exact HB.out) hb); clear HB; have HO303 := n0_; have HB := n1_; clear n0_ n1_; (try clear hb); (try clear ho0)) | ((with_reducible refine gate_callee (f := 33) rfl ?_); refine goesL_ (some 12) rfl rfl Try.func33 (by kernel_rfl) rfl #[.int .u64 3] rfl (by (try simp only [List.map_toArray, List.map_cons, List.map_nil]); rfl) ?_; (with_reducible refine (nat_Of.calls k 3 t304 _ A2.out).mono ?_); rintro e w19 ⟨v305, rfl, ho0, hb⟩; refine ⟨_, rfl, ?_⟩; have n0_ := Aside0.mk (Kd.R_elder' (by exact HO303.out) (Kd.R_base ho0) hb); have n1_ := Aside0.mk (Kd.R_lower (Kd.R_new' ho0 (Kd.R_lt (by exact HO303.out))) (below_size (by with_reducible exact HB.out))); have n2_ := Aside0.mk (below_step (by with_reducible exact HB.out) hb); clear HO303; clear HB; have HO303 := n0_; have HO306 := n1_; have HB := n2_; clear n0_ n1_ n2_; (try clear hb); (try clear ho0); obtain ⟨Ao20, co20, eo20⟩ := Kd.R_slice HO303.out; subst eo20; obtain ⟨Ao21, co21, eo21⟩ := Kd.R_slice HO306.out; subst eo21) | ((with_reducible refine gate_callee (f := 25) rfl ?_); refine goesL_ (some 13) rfl rfl Try.func25 (by kernel_rfl) rfl #[.slice Ao20 t300.length co20, .slice Ao21 t304.length co21] rfl (by (try simp only [List.map_toArray, List.map_cons, List.map_nil]); rfl) ?_; (with_reducible refine (nat_DivMod.calls k _ _ t300 _ _ t304 t307 t308 t309 _ ?side1 ?side2 ?side3 ?side4 A3.out).mono ?_); (case side1 => exact (Kd.R_reads' HO303.out).2.2); (case side2 => exact (Kd.R_reads' HO303.out).2.1); (case side3 => exact (Kd.R_reads' HO306.out).2.2); (case side4 => exact (Kd.R_reads' HO306.out).2.1); rintro e w22 ⟨v310, v312, rfl, ho0, ho1, hb⟩; refine ⟨_, rfl, ?_⟩; have n0_ := Aside0.mk (Kd.R_mono (Kd.R_told (Kd.R_told (Kd.R_old (by exact HO303.out) hb) (Kd.R_base ho0)) (Kd.R_base ho1)) (fun _ h_ => h_.1)); have n1_ := Aside0.mk (Kd.R_mono (Kd.R_told (Kd.R_told (Kd.R_old (by exact HO306.out) hb) (Kd.R_base ho0)) (Kd.R_base ho1)) (fun _ h_ => h_.1)); have n2_ := Aside0.mk (Kd.R_lower (Kd.R_new' (Kd.R_new' ho0 (Kd.R_lt (by exact HO303.out))) (Kd.R_lt (by exact HO306.out))) (below_size (by with_reducible exact HB.out))); have n3_ := Aside0.mk (Kd.R_lower (Kd.R_new' (Kd.R_new' ho1 (Kd.R_lt (by exact HO303.out))) (Kd.R_lt (by exact HO306.out))) (below_size (by with_reducible exact HB.out))); have n4_ := Aside0.mk (below_step (by with_reducible exact HB.out) hb); clear HO303; clear HO306; clear HB; have HO303 := n0_; have HO306 := n1_; have HO311 := n2_; have HO313 := n3_; have HB := n4_; clear n0_ n1_ n2_ n3_ n4_; (try clear hb); (try clear ho0); (try clear ho1); obtain ⟨Ao23, co23, eo23⟩ := Kd.R_slice HO311.out; subst eo23) | (go_at_call 30; (with_reducible refine (nat_Show.calls k _ _ t307 t314 _ ?side1 ?side2 A6.out).mono ?_); (case side1 => exact (Kd.R_reads' HO311.out).2.2); (case side2 => exact (Kd.R_reads' HO311.out).2.1); rintro e w24 ⟨rfl, hb⟩; have n0_ := Aside0.mk (Kd.R_below (by exact HO303.out) hb); have n1_ := Aside0.mk (Kd.R_below (by exact HO306.out) hb); have n2_ := Aside0.mk (Kd.R_below (by exact HO311.out) hb); have n3_ := Aside0.mk (Kd.R_below (by exact HO313.out) hb); have n4_ := Aside0.mk (below_step (by with_reducible exact HB.out) hb); clear HO303; clear HO306; clear HO311; clear HO313; clear HB; have HO303 := n0_; have HO306 := n1_; have HO311 := n2_; have HO313 := n3_; have HB := n4_; clear n0_ n1_ n2_ n3_ n4_; (try clear hb)))
        go_ret
        exact ⟨by rfl, by with_reducible exact HB.out⟩
    · rw [if_neg c5] at H
      have c5b0 : (t309 == 0) = false := beq_eq_false_iff_ne.mpr c5
      have c5b1 : (t309 != 0) = true := bne_iff_ne.mpr c5
      obtain rfl := Option.some.inj H
      go_enter Try.func27, Try.ntmps27
      go_wp2_with (first | ((with_reducible refine gate_callee (f := 31) rfl ?_); refine goesL_ (some 7) rfl rfl Try.func31 (by kernel_rfl) rfl #[.string (⟨#[49, 48, 48, 48, 48, 48, 48, 48, 48, 48, 48, 48, 48, 48, 48, 48, 48, 48, 48, 48, 48]⟩ : ByteArray)] rfl (by (try simp only [List.map_toArray, List.map_cons, List.map_nil]); rfl) ?_; (with_reducible refine (nat_Parse.calls k (⟨#[49, 48, 48, 48, 48, 48, 48, 48, 48, 48, 48, 48, 48, 48, 48, 48, 48, 48, 48, 48, 48]⟩ : ByteArray) t300 t301 _ A1.out).mono ?_); rintro e w25 ⟨v302, rfl, ho0, hb⟩; refine ⟨_, rfl, ?_⟩; have n0_ := Aside0.mk (Kd.R_lower ho0 (below_size (by with_reducible exact HB.out))); have n1_ := Aside0.mk (below_step (by with_reducible exact HB.out) hb); clear HB; have HO303 := n0_; have HB := n1_; clear n0_ n1_; (try clear hb); (try clear ho0)) | ((with_reducible refine gate_callee (f := 33) rfl ?_); refine goesL_ (some 12) rfl rfl Try.func33 (by kernel_rfl) rfl #[.int .u64 3] rfl (by (try simp only [List.map_toArray, List.map_cons, List.map_nil]); rfl) ?_; (with_reducible refine (nat_Of.calls k 3 t304 _ A2.out).mono ?_); rintro e w26 ⟨v305, rfl, ho0, hb⟩; refine ⟨_, rfl, ?_⟩; have n0_ := Aside0.mk (Kd.R_elder' (by exact HO303.out) (Kd.R_base ho0) hb); have n1_ := Aside0.mk (Kd.R_lower (Kd.R_new' ho0 (Kd.R_lt (by exact HO303.out))) (below_size (by with_reducible exact HB.out))); have n2_ := Aside0.mk (below_step (by with_reducible exact HB.out) hb); clear HO303; clear HB; have HO303 := n0_; have HO306 := n1_; have HB := n2_; clear n0_ n1_ n2_; (try clear hb); (try clear ho0); obtain ⟨Ao27, co27, eo27⟩ := Kd.R_slice HO303.out; subst eo27; obtain ⟨Ao28, co28, eo28⟩ := Kd.R_slice HO306.out; subst eo28) | ((with_reducible refine gate_callee (f := 25) rfl ?_); refine goesL_ (some 13) rfl rfl Try.func25 (by kernel_rfl) rfl #[.slice Ao27 t300.length co27, .slice Ao28 t304.length co28] rfl (by (try simp only [List.map_toArray, List.map_cons, List.map_nil]); rfl) ?_; (with_reducible refine (nat_DivMod.calls k _ _ t300 _ _ t304 t307 t308 t309 _ ?side1 ?side2 ?side3 ?side4 A3.out).mono ?_); (case side1 => exact (Kd.R_reads' HO303.out).2.2); (case side2 => exact (Kd.R_reads' HO303.out).2.1); (case side3 => exact (Kd.R_reads' HO306.out).2.2); (case side4 => exact (Kd.R_reads' HO306.out).2.1); rintro e w29 ⟨v310, v312, rfl, ho0, ho1, hb⟩; refine ⟨_, rfl, ?_⟩; have n0_ := Aside0.mk (Kd.R_mono (Kd.R_told (Kd.R_told (Kd.R_old (by exact HO303.out) hb) (Kd.R_base ho0)) (Kd.R_base ho1)) (fun _ h_ => h_.1)); have n1_ := Aside0.mk (Kd.R_mono (Kd.R_told (Kd.R_told (Kd.R_old (by exact HO306.out) hb) (Kd.R_base ho0)) (Kd.R_base ho1)) (fun _ h_ => h_.1)); have n2_ := Aside0.mk (Kd.R_lower (Kd.R_new' (Kd.R_new' ho0 (Kd.R_lt (by exact HO303.out))) (Kd.R_lt (by exact HO306.out))) (below_size (by with_reducible exact HB.out))); have n3_ := Aside0.mk (Kd.R_lower (Kd.R_new' (Kd.R_new' ho1 (Kd.R_lt (by exact HO303.out))) (Kd.R_lt (by exact HO306.out))) (below_size (by with_reducible exact HB.out))); have n4_ := Aside0.mk (below_step (by with_reducible exact HB.out) hb); clear HO303; clear HO306; clear HB; have HO303 := n0_; have HO306 := n1_; have HO311 := n2_; have HO313 := n3_; have HB := n4_; clear n0_ n1_ n2_ n3_ n4_; (try clear hb); (try clear ho0); (try clear ho1)))
      go_ret
      exact ⟨by rfl, by with_reducible exact HB.out⟩
  · rw [if_neg c4] at H
    have c4b0 : (t301 == 0) = false := beq_eq_false_iff_ne.mpr c4
    have c4b1 : (t301 != 0) = true := bne_iff_ne.mpr c4
    obtain rfl := Option.some.inj H
    go_enter Try.func27, Try.ntmps27
    go_wp2_with (first | ((with_reducible refine gate_callee (f := 31) rfl ?_); refine goesL_ (some 7) rfl rfl Try.func31 (by kernel_rfl) rfl #[.string (⟨#[49, 48, 48, 48, 48, 48, 48, 48, 48, 48, 48, 48, 48, 48, 48, 48, 48, 48, 48, 48, 48]⟩ : ByteArray)] rfl (by (try simp only [List.map_toArray, List.map_cons, List.map_nil]); rfl) ?_; (with_reducible refine (nat_Parse.calls k (⟨#[49, 48, 48, 48, 48, 48, 48, 48, 48, 48, 48, 48, 48, 48, 48, 48, 48, 48, 48, 48, 48]⟩ : ByteArray) t300 t301 _ A1.out).mono ?_); rintro e w30 ⟨v302, rfl, ho0, hb⟩; refine ⟨_, rfl, ?_⟩; have n0_ := Aside0.mk (Kd.R_lower ho0 (below_size (by with_reducible exact HB.out))); have n1_ := Aside0.mk (below_step (by with_reducible exact HB.out) hb); clear HB; have HO303 := n0_; have HB := n1_; clear n0_ n1_; (try clear hb); (try clear ho0)) | ((with_reducible refine gate_callee (f := 33) rfl ?_); refine goesL_ (some 12) rfl rfl Try.func33 (by kernel_rfl) rfl #[.int .u64 3] rfl (by (try simp only [List.map_toArray, List.map_cons, List.map_nil]); rfl) ?_; (with_reducible refine (nat_Of.calls k 3 t304 _ A2.out).mono ?_); rintro e w31 ⟨v305, rfl, ho0, hb⟩; refine ⟨_, rfl, ?_⟩; have n0_ := Aside0.mk (Kd.R_elder' (by exact HO303.out) (Kd.R_base ho0) hb); have n1_ := Aside0.mk (Kd.R_lower (Kd.R_new' ho0 (Kd.R_lt (by exact HO303.out))) (below_size (by with_reducible exact HB.out))); have n2_ := Aside0.mk (below_step (by with_reducible exact HB.out) hb); clear HO303; clear HB; have HO303 := n0_; have HO306 := n1_; have HB := n2_; clear n0_ n1_ n2_; (try clear hb); (try clear ho0); obtain ⟨Ao32, co32, eo32⟩ := Kd.R_slice HO303.out; subst eo32; obtain ⟨Ao33, co33, eo33⟩ := Kd.R_slice HO306.out; subst eo33) | ((with_reducible refine gate_callee (f := 25) rfl ?_); refine goesL_ (some 13) rfl rfl Try.func25 (by kernel_rfl) rfl #[.slice Ao32 t300.length co32, .slice Ao33 t304.length co33] rfl (by (try simp only [List.map_toArray, List.map_cons, List.map_nil]); rfl) ?_; (with_reducible refine (nat_DivMod.calls k _ _ t300 _ _ t304 t307 t308 t309 _ ?side1 ?side2 ?side3 ?side4 A3.out).mono ?_); (case side1 => exact (Kd.R_reads' HO303.out).2.2); (case side2 => exact (Kd.R_reads' HO303.out).2.1); (case side3 => exact (Kd.R_reads' HO306.out).2.2); (case side4 => exact (Kd.R_reads' HO306.out).2.1); rintro e w34 ⟨v310, v312, rfl, ho0, ho1, hb⟩; refine ⟨_, rfl, ?_⟩; have n0_ := Aside0.mk (Kd.R_mono (Kd.R_told (Kd.R_told (Kd.R_old (by exact HO303.out) hb) (Kd.R_base ho0)) (Kd.R_base ho1)) (fun _ h_ => h_.1)); have n1_ := Aside0.mk (Kd.R_mono (Kd.R_told (Kd.R_told (Kd.R_old (by exact HO306.out) hb) (Kd.R_base ho0)) (Kd.R_base ho1)) (fun _ h_ => h_.1)); have n2_ := Aside0.mk (Kd.R_lower (Kd.R_new' (Kd.R_new' ho0 (Kd.R_lt (by exact HO303.out))) (Kd.R_lt (by exact HO306.out))) (below_size (by with_reducible exact HB.out))); have n3_ := Aside0.mk (Kd.R_lower (Kd.R_new' (Kd.R_new' ho1 (Kd.R_lt (by exact HO303.out))) (Kd.R_lt (by exact HO306.out))) (below_size (by with_reducible exact HB.out))); have n4_ := Aside0.mk (below_step (by with_reducible exact HB.out) hb); clear HO303; clear HO306; clear HB; have HO303 := n0_; have HO306 := n1_; have HO311 := n2_; have HO313 := n3_; have HB := n4_; clear n0_ n1_ n2_ n3_ n4_; (try clear hb); (try clear ho0); (try clear ho1)))
    go_ret
    exact ⟨by rfl, by with_reducible exact HB.out⟩

end Go.Proofs.Ytafhcchjjlbojaa.ZNat
