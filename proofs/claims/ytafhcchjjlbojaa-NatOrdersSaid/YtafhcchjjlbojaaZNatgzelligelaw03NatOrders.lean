-- printed by zprint.py, a program of this session's
import Derived.Test.YtafhcchjjlbojaaZNat0
import Derived.Test.YtafhcchjjlbojaaKeep
import Derived.Test.YtafhcchjjlbojaaZNatgCore
import Derived.Test.YtafhcchjjlbojaaZNatgLaw3
import Derived.Test.YtafhcchjjlbojaaZNatgRGcd
import Derived.Test.YtafhcchjjlbojaaZNatgRTrim
import Derived.Test.YtafhcchjjlbojaaZNatgSize
namespace Go.Proofs.Ytafhcchjjlbojaa.ZNat
open Go.RowKit Go.Proofs.YtafhcchjjlbojaaW.PrintWords Go.Proofs.YtafhcchjjlbojaaW.PrintLast Go.Proofs.YtafhcchjjlbojaaW.PrintMore
set_option linter.unusedVariables false
set_option linter.unusedSimpArgs false

/-! ### zelligelaw03_NatOrders: function 12 -/
def zelligelaw03_NatOrders.f (k : Nat) (l0 : List Int) (l1 : List Int) : Option (Bool) := (zelligelaw03_short.f l0).bind fun t744 => ((zelligelaw03_short.f l1).bind fun t747 => ((zelligeref03_Of.f k t744).bind fun t750 => ((zelligeref03_Of.f k t747).bind fun t753 => ((nat_Cmp.f k t744 t747).bind fun t756 => ((zelligeref03_Cmp.f k t750 t753).bind fun t757 => (if t756 = t757 then ((nat_Bits.f k t744).bind fun t758 => ((zelligeref03_Bits.f k t750).bind fun t759 => (if t758 = t759 then ((nat_Trim.f k t744).bind fun t760 => ((zelligeref03_Same.f k t760 t750).bind fun t763 => (if t763 = true then (if t744.length < 35184372088832 then ((nat_Cmp.f k t744 (t744 ++ [0])).bind fun t767 => (if t767 = 0 then ((zelligelaw03_lives.f k).bind fun t768 => (some t768)) else (some false))) else (none)) else (some false)))) else (some false)))) else (some false)))))))
theorem zelligelaw03_NatOrders.mono : ∀ a0 a1 k, LeO (zelligelaw03_NatOrders.f k a0 a1) (zelligelaw03_NatOrders.f (k + 1) a0 a1) := by
  intro a0 a1 k
  unfold zelligelaw03_NatOrders.f
  repeat' first
      | (with_reducible exact nat_Bits.mono _ _)
      | (with_reducible exact nat_Cmp.mono _ _ _)
      | (with_reducible exact nat_Trim.mono _ _)
      | (with_reducible exact zelligelaw03_lives.mono _)
      | (with_reducible exact zelligeref03_Bits.mono _ _)
      | (with_reducible exact zelligeref03_Cmp.mono _ _ _)
      | (with_reducible exact zelligeref03_Of.mono _ _)
      | (with_reducible exact zelligeref03_Same.mono _ _ _)
      | (with_reducible exact LeO.refl _)
      | (with_reducible refine LeO.ite ?_ ?_)
      | (with_reducible refine LeO.bind ?_ (fun _ => ?_))
set_option maxHeartbeats 8000000 in
set_option maxRecDepth 100000 in
theorem zelligelaw03_NatOrders.calls (k : Nat) (A0 : Option Addr) (c0 : Nat) (l0 : List Int) (A1 : Option Addr) (c1 : Nat) (l1 : List Int) (r : Bool) (w : World) (hr0 : Kd.C (Kd.int .u32) w A0 l0.length l0) (hc0 : l0.length ≤ c0) (hr1 : Kd.C (Kd.int .u32) w A1 l1.length l1) (hc1 : l1.length ≤ c1) (h : zelligelaw03_NatOrders.f k l0 l1 = some r) (hT : Aside0 (r = true)) :
    Calls Try.prog 12 #[.slice A0 l0.length c0, .slice A1 l1.length c1] w fun e w' => e = .returned (.bool r) ∧ Below w.heap.size w w' := by
  have HR0 := Aside0.mk hr0
  have HC0 := Aside0.mk hc0
  clear hr0 hc0
  have HR1 := Aside0.mk hr1
  have HC1 := Aside0.mk hc1
  clear hr1 hc1
  have HB := Aside0.mk (Below.refl w.heap.size w)
  have H : ((zelligelaw03_short.f l0).bind fun t744 => ((zelligelaw03_short.f l1).bind fun t747 => ((zelligeref03_Of.f k t744).bind fun t750 => ((zelligeref03_Of.f k t747).bind fun t753 => ((nat_Cmp.f k t744 t747).bind fun t756 => ((zelligeref03_Cmp.f k t750 t753).bind fun t757 => (if t756 = t757 then ((nat_Bits.f k t744).bind fun t758 => ((zelligeref03_Bits.f k t750).bind fun t759 => (if t758 = t759 then ((nat_Trim.f k t744).bind fun t760 => ((zelligeref03_Same.f k t760 t750).bind fun t763 => (if t763 = true then (if t744.length < 35184372088832 then ((nat_Cmp.f k t744 (t744 ++ [0])).bind fun t767 => (if t767 = 0 then ((zelligelaw03_lives.f k).bind fun t768 => (some t768)) else (some false))) else (none)) else (some false)))) else (some false)))) else (some false)))))))) = some r := h
  clear h
  obtain ⟨t744, A3, H⟩ := bindE H
  obtain ⟨t747, A4, H⟩ := bindE H
  obtain ⟨t750, A5, H⟩ := bindE H
  obtain ⟨t753, A6, H⟩ := bindE H
  obtain ⟨t756, A7, H⟩ := bindE H
  obtain ⟨t757, A8, H⟩ := bindE H
  by_cases c9 : t756 = t757
  · rw [if_pos c9] at H
    have c9b0 : (t756 == t757) = true := beq_iff_eq.mpr c9
    have c9b1 : (t756 != t757) = false := bne_eq_false_iff_eq.mpr c9
    clear c9
    obtain ⟨t758, A10, H⟩ := bindE H
    obtain ⟨t759, A11, H⟩ := bindE H
    by_cases c12 : t758 = t759
    · rw [if_pos c12] at H
      have c12b0 : (t758 == t759) = true := beq_iff_eq.mpr c12
      have c12b1 : (t758 != t759) = false := bne_eq_false_iff_eq.mpr c12
      clear c12
      obtain ⟨t760, A13, H⟩ := bindE H
      obtain ⟨t763, A14, H⟩ := bindE H
      by_cases c15 : t763 = true
      · subst c15
        rw [if_pos rfl] at H
        by_cases c16 : t744.length < 35184372088832
        · rw [if_pos c16] at H
          have LMc16 := Aside0.mk c16
          clear c16
          obtain ⟨y764, hy764⟩ : ∃ y_ : List Int, y_ = (t744 ++ [0]) := ⟨_, rfl⟩
          replace H : ((nat_Cmp.f k t744 y764).bind fun t767 => (if t767 = 0 then ((zelligelaw03_lives.f k).bind fun t768 => (some t768)) else (some false))) = some r := by (rw [hy764]; with_reducible exact H)
          have Ny764 := Aside0.mk hy764
          clear hy764
          obtain ⟨t767, A17, H⟩ := bindE H
          by_cases c18 : t767 = 0
          · rw [if_pos c18] at H
            have c18b0 : (t767 == 0) = true := beq_iff_eq.mpr c18
            have c18b1 : (t767 != 0) = false := bne_eq_false_iff_eq.mpr c18
            clear c18
            obtain ⟨t768, A19, H⟩ := bindE H
            obtain rfl := Option.some.inj H
            go_enter Try.func12, Try.ntmps12
            go_wp2_with (first | ((with_reducible refine gate_callee (f := 24) rfl ?_); refine goesL_ (some 8) rfl rfl Try.func24 (by kernel_rfl) rfl #[.slice A0 l0.length c0] rfl (by (try simp only [List.map_toArray, List.map_cons, List.map_nil]); rfl) ?_; (with_reducible refine (zelligelaw03_short.calls _ _ l0 t744 _ ?side1 ?side2 A3.out).mono ?_); (case side1 => exact HR0.out); (case side2 => exact HC0.out); rintro e w20 ⟨v745, rfl, ho0, hb⟩; refine ⟨_, rfl, ?_⟩; have n0_ := Aside0.mk (Kd.R_lower ho0 (below_size (by with_reducible exact HB.out))); have n1_ := Aside0.mk (below_step (by with_reducible exact HB.out) hb); clear HB; have HO746 := n0_; have HB := n1_; clear n0_ n1_; (try clear hb); (try clear ho0)) | ((with_reducible refine gate_callee (f := 24) rfl ?_); refine goesL_ (some 10) rfl rfl Try.func24 (by kernel_rfl) rfl #[.slice A1 l1.length c1] rfl (by (try simp only [List.map_toArray, List.map_cons, List.map_nil]); rfl) ?_; (with_reducible refine (zelligelaw03_short.calls _ _ l1 t747 _ ?side1 ?side2 A4.out).mono ?_); (case side1 => repeat (exact (Kd.C_below HR1.out HB.out))); (case side2 => exact HC1.out); rintro e w21 ⟨v748, rfl, ho0, hb⟩; refine ⟨_, rfl, ?_⟩; have n0_ := Aside0.mk (Kd.R_elder' (by exact HO746.out) (Kd.R_base ho0) hb); have n1_ := Aside0.mk (Kd.R_lower (Kd.R_new' ho0 (Kd.R_lt (by exact HO746.out))) (below_size (by with_reducible exact HB.out))); have n2_ := Aside0.mk (below_step (by with_reducible exact HB.out) hb); clear HO746; clear HB; have HO746 := n0_; have HO749 := n1_; have HB := n2_; clear n0_ n1_ n2_; (try clear hb); (try clear ho0); obtain ⟨Ao22, co22, eo22⟩ := Kd.R_slice HO746.out; subst eo22) | ((with_reducible refine gate_callee (f := 26) rfl ?_); refine goesL_ (some 12) rfl rfl Try.func26 (by kernel_rfl) rfl #[.slice Ao22 t744.length co22] rfl (by (try simp only [List.map_toArray, List.map_cons, List.map_nil]); rfl) ?_; (with_reducible refine (zelligeref03_Of.calls k _ _ t744 t750 _ ?side1 ?side2 A5.out).mono ?_); (case side1 => exact (Kd.R_reads' HO746.out).2.2); (case side2 => exact (Kd.R_reads' HO746.out).2.1); rintro e w23 ⟨v751, rfl, ho0, hb⟩; refine ⟨_, rfl, ?_⟩; have n0_ := Aside0.mk (Kd.R_below (by exact HO746.out) hb); have n1_ := Aside0.mk (Kd.R_below (by exact HO749.out) hb); have n2_ := Aside0.mk (Kd.R_lower ho0 (below_size (by with_reducible exact HB.out))); have n3_ := Aside0.mk (below_step (by with_reducible exact HB.out) hb); clear HO746; clear HO749; clear HB; have HO746 := n0_; have HO749 := n1_; have HO752 := n2_; have HB := n3_; clear n0_ n1_ n2_ n3_; (try clear hb); (try clear ho0); obtain ⟨Ao24, co24, eo24⟩ := Kd.R_slice HO749.out; subst eo24) | ((with_reducible refine gate_callee (f := 26) rfl ?_); refine goesL_ (some 14) rfl rfl Try.func26 (by kernel_rfl) rfl #[.slice Ao24 t747.length co24] rfl (by (try simp only [List.map_toArray, List.map_cons, List.map_nil]); rfl) ?_; (with_reducible refine (zelligeref03_Of.calls k _ _ t747 t753 _ ?side1 ?side2 A6.out).mono ?_); (case side1 => exact (Kd.R_reads' HO749.out).2.2); (case side2 => exact (Kd.R_reads' HO749.out).2.1); rintro e w25 ⟨v754, rfl, ho0, hb⟩; refine ⟨_, rfl, ?_⟩; have n0_ := Aside0.mk (Kd.R_below (by exact HO746.out) hb); have n1_ := Aside0.mk (Kd.R_below (by exact HO749.out) hb); have n2_ := Aside0.mk (Kd.R_elder' (by exact HO752.out) (Kd.R_base ho0) hb); have n3_ := Aside0.mk (Kd.R_lower (Kd.R_new' ho0 (Kd.R_lt (by exact HO752.out))) (below_size (by with_reducible exact HB.out))); have n4_ := Aside0.mk (below_step (by with_reducible exact HB.out) hb); clear HO746; clear HO749; clear HO752; clear HB; have HO746 := n0_; have HO749 := n1_; have HO752 := n2_; have HO755 := n3_; have HB := n4_; clear n0_ n1_ n2_ n3_ n4_; (try clear hb); (try clear ho0)) | ((with_reducible refine gate_callee (f := 37) rfl ?_); refine goesL_ (some 17) rfl rfl Try.func37 (by kernel_rfl) rfl #[.slice Ao22 t744.length co22, .slice Ao24 t747.length co24] rfl (by (try simp only [List.map_toArray, List.map_cons, List.map_nil]); rfl) ?_; (with_reducible refine (nat_Cmp.calls k _ _ t744 _ _ t747 t756 _ ?side1 ?side2 ?side3 ?side4 A7.out).mono ?_); (case side1 => exact (Kd.R_reads' HO746.out).2.2); (case side2 => exact (Kd.R_reads' HO746.out).2.1); (case side3 => exact (Kd.R_reads' HO749.out).2.2); (case side4 => exact (Kd.R_reads' HO749.out).2.1); rintro e w26 ⟨rfl, hb⟩; refine ⟨_, rfl, ?_⟩; have n0_ := Aside0.mk (Kd.R_below (by exact HO746.out) hb); have n1_ := Aside0.mk (Kd.R_below (by exact HO749.out) hb); have n2_ := Aside0.mk (Kd.R_below (by exact HO752.out) hb); have n3_ := Aside0.mk (Kd.R_below (by exact HO755.out) hb); have n4_ := Aside0.mk (below_step (by with_reducible exact HB.out) hb); clear HO746; clear HO749; clear HO752; clear HO755; clear HB; have HO746 := n0_; have HO749 := n1_; have HO752 := n2_; have HO755 := n3_; have HB := n4_; clear n0_ n1_ n2_ n3_ n4_; (try clear hb); obtain ⟨Ao27, co27, eo27⟩ := Kd.R_slice HO752.out; subst eo27; obtain ⟨Ao28, co28, eo28⟩ := Kd.R_slice HO755.out; subst eo28) | ((with_reducible refine gate_callee (f := 38) rfl ?_); refine goesL_ (some 20) rfl rfl Try.func38 (by kernel_rfl) rfl #[.slice Ao27 t750.length co27, .slice Ao28 t753.length co28] rfl (by (try simp only [List.map_toArray, List.map_cons, List.map_nil]); rfl) ?_; (with_reducible refine (zelligeref03_Cmp.calls k _ _ t750 _ _ t753 t757 _ ?side1 ?side2 ?side3 ?side4 A8.out).mono ?_); (case side1 => exact (Kd.R_reads' HO752.out).2.2); (case side2 => exact (Kd.R_reads' HO752.out).2.1); (case side3 => exact (Kd.R_reads' HO755.out).2.2); (case side4 => exact (Kd.R_reads' HO755.out).2.1); rintro e w' ⟨rfl, ⟨nd, rfl⟩⟩; refine ⟨_, rfl, ?_⟩) | (go_at_call 39; (with_reducible refine (nat_Bits.calls k _ _ t744 t758 _ ?side1 ?side2 A10.out).mono ?_); (case side1 => exact (Kd.R_reads' HO746.out).2.2); (case side2 => exact (Kd.R_reads' HO746.out).2.1); rintro e w29 ⟨rfl, hb⟩; have n0_ := Aside0.mk (Kd.R_below (by (with_reducible repeat (apply Kd.R_drewN)); exact HO746.out) hb); have n1_ := Aside0.mk (Kd.R_below (by (with_reducible repeat (apply Kd.R_drewN)); exact HO749.out) hb); have n2_ := Aside0.mk (Kd.R_below (by (with_reducible repeat (apply Kd.R_drewN)); exact HO752.out) hb); have n3_ := Aside0.mk (Kd.R_below (by (with_reducible repeat (apply Kd.R_drewN)); exact HO755.out) hb); have n4_ := Aside0.mk (below_step (by repeat ((with_reducible first | exact HB.out | apply pw_below_drewN))) hb); clear HO746; clear HO749; clear HO752; clear HO755; clear HB; have HO746 := n0_; have HO749 := n1_; have HO752 := n2_; have HO755 := n3_; have HB := n4_; clear n0_ n1_ n2_ n3_ n4_; (try clear hb)) | (go_at_call 40; (with_reducible refine (zelligeref03_Bits.calls k (fun k_ => some k_ = (.slice Ao27 t750.length co27 : Value).ownBlock) _ _ t750 t759 _ ?side1 A11.out).mono ?_); (case side1 => exact Kd.R_V (Kd.R_tight rfl (Kd.R_apart' (Kd.R_apart' (HO752.out) (Kd.R_typed HO746.out) (by decide)) (Kd.R_typed HO749.out) (by decide)))); rintro e w30 ⟨rfl, hb⟩; have n0_ := Aside0.mk (Kd.R_below (by exact HO746.out) hb); have n1_ := Aside0.mk (Kd.R_below (by exact HO749.out) hb); have n2_ := Aside0.mk (Kd.R_below (by exact HO752.out) hb); have n3_ := Aside0.mk (Kd.R_below (by exact HO755.out) hb); have n4_ := Aside0.mk (below_step (by with_reducible exact HB.out) hb); clear HO746; clear HO749; clear HO752; clear HO755; clear HB; have HO746 := n0_; have HO749 := n1_; have HO752 := n2_; have HO755 := n3_; have HB := n4_; clear n0_ n1_ n2_ n3_ n4_; (try clear hb)) | (go_at_call 41; (with_reducible refine (nat_Trim.calls k _ _ t744 t760 _ ?side1 ?side2 A13.out).mono ?_); (case side1 => exact (Kd.R_reads' HO746.out).2.2); (case side2 => exact (Kd.R_reads' HO746.out).2.1); rintro e w31 ⟨v761, rfl, ho0, hb⟩; have n0_ := Aside0.mk (Kd.R_elder' (by exact HO746.out) (Kd.R_base ho0) hb); have n1_ := Aside0.mk (Kd.R_elder' (by exact HO749.out) (Kd.R_base ho0) hb); have n2_ := Aside0.mk (Kd.R_below (by exact HO752.out) hb); have n3_ := Aside0.mk (Kd.R_below (by exact HO755.out) hb); have n4_ := Aside0.mk (Kd.R_lower (Kd.R_new' (Kd.R_new' ho0 (Kd.R_lt (by exact HO746.out))) (Kd.R_lt (by exact HO749.out))) (below_size (by with_reducible exact HB.out))); have n5_ := Aside0.mk (below_step (by with_reducible exact HB.out) hb); clear HO746; clear HO749; clear HO752; clear HO755; clear HB; have HO746 := n0_; have HO749 := n1_; have HO752 := n2_; have HO755 := n3_; have HO762 := n4_; have HB := n5_; clear n0_ n1_ n2_ n3_ n4_ n5_; (try clear hb); (try clear ho0); obtain ⟨Ao32, co32, eo32⟩ := Kd.R_slice HO762.out; subst eo32) | (go_at_call 29; (with_reducible refine (zelligeref03_Same.calls k _ _ t760 _ _ t750 true _ ?side1 ?side2 ?side3 ?side4 A14.out).mono ?_); (case side1 => exact (Kd.R_reads' HO762.out).2.2); (case side2 => exact (Kd.R_reads' HO762.out).2.1); (case side3 => exact (Kd.R_reads' HO752.out).2.2); (case side4 => exact (Kd.R_reads' HO752.out).2.1); rintro e w33 ⟨rfl, hb⟩; have n0_ := Aside0.mk (Kd.R_below (by exact HO746.out) hb); have n1_ := Aside0.mk (Kd.R_below (by exact HO749.out) hb); have n2_ := Aside0.mk (Kd.R_below (by exact HO752.out) hb); have n3_ := Aside0.mk (Kd.R_below (by exact HO755.out) hb); have n4_ := Aside0.mk (Kd.R_below (by exact HO762.out) hb); have n5_ := Aside0.mk (below_step (by with_reducible exact HB.out) hb); clear HO746; clear HO749; clear HO752; clear HO755; clear HO762; clear HB; have HO746 := n0_; have HO749 := n1_; have HO752 := n2_; have HO755 := n3_; have HO762 := n4_; have HB := n5_; clear n0_ n1_ n2_ n3_ n4_ n5_; (try clear hb)) | ((with_reducible refine gate_builtin (b := .append) (xs := #[.tmp 37, .tmp 38]) rfl ?_); (try (refine gate_guard (by rfl) ?_; dsimp only)); at_builtin; refine R_appendK (Kd.int .u32) (w0 := w) w.heap.size rfl (.tmp 37) (.tmp 38) 36 53 (.int .u32 0) 4 rfl Try.underlying36 info53 rfl (by decide) (by omega) Ao22 t744.length co22 t744 0 [.int .u32 0] (fun k_ => some k_ ≠ (.slice Ao24 t747.length co24 : Value).ownBlock ∧ some k_ ≠ (.slice Ao32 t760.length co32 : Value).ownBlock) (fun _ => False) rfl rfl ?aP (fun _ hk => hk.elim) ?aF ?aO ?aB ?aS ?aL ?_; (case aP => exact rfl); (case aB => exact (by with_reducible exact HB.out)); (case aF => exact (fun k_ hk => ⟨Kd.fresh' (Kd.R_lt (by exact HO749.out)) k_ hk, Kd.fresh' (Kd.R_lt (by exact HO762.out)) k_ hk⟩)); (case aO => exact (by exact Kd.R_mono HO746.out (fun _ hk => ⟨hk.1.2, hk.2⟩))); (case aS => exact (below_size (by with_reducible exact HB.out))); (case aL => have := LMc16.out; omega); intro v765 w34 ho hb hg hat hkeep_; rw [← Ny764.out] at ho; have HKC_ := Aside0.mk (Kd.R_reads' HO746.out).2.1; have HKK_ := Aside0.mk hkeep_; clear hkeep_; have n0_ := Aside0.mk (Kd.R_after (ok := (fun k_ => some k_ ≠ (.slice Ao32 t760.length co32 : Value).ownBlock)) (by exact Kd.R_mono HO749.out (fun _ hk => ⟨hk.2, hk.1.2⟩)) hg hat); have n1_ := Aside0.mk (Kd.R_over' (by exact HO752.out) (Kd.R_typed (by exact HO746.out)) (by decide) hg); have n2_ := Aside0.mk (Kd.R_over' (by exact HO755.out) (Kd.R_typed (by exact HO746.out)) (by decide) hg); have n3_ := Aside0.mk (Kd.R_after (ok := (fun k_ => some k_ ≠ (.slice Ao24 t747.length co24 : Value).ownBlock)) (by exact Kd.R_mono HO762.out (fun _ hk => ⟨hk.2, hk.1.2⟩)) hg hat); have n4_ := Aside0.mk (hb); have n5_ := Aside0.mk (ho); clear HO749; clear HO752; clear HO755; clear HO762; clear HB; clear HO746; have HO749 := n0_; have HO752 := n1_; have HO755 := n2_; have HO762 := n3_; have HB := n4_; have HO766 := n5_; clear n0_ n1_ n2_ n3_ n4_ n5_; clear ho hb hg hat; obtain ⟨Ao35, co35, eo35⟩ := Kd.R_slice HO766.out; subst eo35) | (go_at_call 37; (with_reducible refine (nat_Cmp.calls k _ _ t744 _ _ y764 t767 _ ?side1 ?side2 ?side3 ?side4 A17.out).mono ?_); (case side1 => exact HKK_.out); (case side2 => exact HKC_.out); (case side3 => exact (Kd.R_reads' HO766.out).2.2); (case side4 => exact (Kd.R_reads' HO766.out).2.1); rintro e w36 ⟨rfl, hb⟩; have n0_ := Aside0.mk (Kd.R_below (by exact HO749.out) hb); have n1_ := Aside0.mk (Kd.R_below (by exact HO752.out) hb); have n2_ := Aside0.mk (Kd.R_below (by exact HO755.out) hb); have n3_ := Aside0.mk (Kd.R_below (by exact HO762.out) hb); have n4_ := Aside0.mk (Kd.R_below (by exact HO766.out) hb); have n5_ := Aside0.mk (below_step (by with_reducible exact HB.out) hb); clear HO749; clear HO752; clear HO755; clear HO762; clear HO766; clear HB; have HO749 := n0_; have HO752 := n1_; have HO755 := n2_; have HO762 := n3_; have HO766 := n4_; have HB := n5_; clear n0_ n1_ n2_ n3_ n4_ n5_; (try clear hb)) | (go_at_call 27; (with_reducible refine (zelligelaw03_lives.calls k  t768 _ A19.out).mono ?_); rintro e w37 ⟨rfl, hb⟩; have n0_ := Aside0.mk (Kd.R_below (by exact HO749.out) hb); have n1_ := Aside0.mk (Kd.R_below (by exact HO752.out) hb); have n2_ := Aside0.mk (Kd.R_below (by exact HO755.out) hb); have n3_ := Aside0.mk (Kd.R_below (by exact HO762.out) hb); have n4_ := Aside0.mk (Kd.R_below (by exact HO766.out) hb); have n5_ := Aside0.mk (below_step (by with_reducible exact HB.out) hb); clear HO749; clear HO752; clear HO755; clear HO762; clear HO766; clear HB; have HO749 := n0_; have HO752 := n1_; have HO755 := n2_; have HO762 := n3_; have HO766 := n4_; have HB := n5_; clear n0_ n1_ n2_ n3_ n4_ n5_; (try clear hb)))
            go_ret
            exact ⟨by rfl, by with_reducible exact HB.out⟩
          · rw [if_neg c18] at H
            have c18b0 : (t767 == 0) = false := beq_eq_false_iff_ne.mpr c18
            have c18b1 : (t767 != 0) = true := bne_iff_ne.mpr c18
            exact absurd (Option.some.inj (H.trans (congrArg some hT.out))) (by decide)
        · rw [if_neg c16] at H
          exact absurd H (by simp)
      · replace c15 := Bool.eq_false_iff.mpr c15
        subst c15
        rw [if_neg (show ¬ (false = true) by decide)] at H
        exact absurd (Option.some.inj (H.trans (congrArg some hT.out))) (by decide)
    · rw [if_neg c12] at H
      have c12b0 : (t758 == t759) = false := beq_eq_false_iff_ne.mpr c12
      have c12b1 : (t758 != t759) = true := bne_iff_ne.mpr c12
      exact absurd (Option.some.inj (H.trans (congrArg some hT.out))) (by decide)
  · rw [if_neg c9] at H
    have c9b0 : (t756 == t757) = false := beq_eq_false_iff_ne.mpr c9
    have c9b1 : (t756 != t757) = true := bne_iff_ne.mpr c9
    exact absurd (Option.some.inj (H.trans (congrArg some hT.out))) (by decide)

/-- THE ONE PURE STATEMENT of zelligelaw03_NatOrders: yours. -/
def zelligelaw03_NatOrders.Pure : Prop := ∀ (l0 : List Int) (l1 : List Int), l0.length ≤ maxLen → l0.length * 4 ≤ 140737488351232 → (∀ x ∈ l0, (Lit.int .u32 x).wf = true) → l1.length ≤ maxLen → l1.length * 4 ≤ 140737488351232 → (∀ x ∈ l1, (Lit.int .u32 x).wf = true) → ∃ k, zelligelaw03_NatOrders.f k l0 l1 = some true
theorem zelligelaw03_NatOrders.walk (P : zelligelaw03_NatOrders.Pure) (a0 : Option Addr) (len0 cap0 : Nat) (z0 : List Int) (a1 : Option Addr) (len1 cap1 : Nat) (z1 : List Int) (w : World) (w0 : (a0 = none ∧ len0 = 0 ∧ cap0 = 0 ∧ z0 = []) ∨ ∃ x, a0 = some x ∧ len0 ≤ cap0 ∧ cap0 ≤ maxLen ∧ z0.length = cap0 ∧ (∀ i, i < z0.length → w.cell? (x.add i) = some (.int .u32 (z0.getD i 0))) ∧ ∀ n ∈ z0, (Lit.int .u32 n).wf = true) (y0 : len0 * 4 ≤ 140737488351232) (w1 : (a1 = none ∧ len1 = 0 ∧ cap1 = 0 ∧ z1 = []) ∨ ∃ x, a1 = some x ∧ len1 ≤ cap1 ∧ cap1 ≤ maxLen ∧ z1.length = cap1 ∧ (∀ i, i < z1.length → w.cell? (x.add i) = some (.int .u32 (z1.getD i 0))) ∧ ∀ n ∈ z1, (Lit.int .u32 n).wf = true) (y1 : len1 * 4 ≤ 140737488351232) :
    Calls Try.prog 12 #[.slice a0 len0 cap0, .slice a1 len1 cap1] w fun e w' => e = .returned (.bool true) ∧ Below w.heap.size w w' := by
  obtain ⟨l0, rfl, hr0, hm0, hw0, hc0⟩ := ReadsInt.ofRowC w0
  obtain ⟨l1, rfl, hr1, hm1, hw1, hc1⟩ := ReadsInt.ofRowC w1
  obtain ⟨k, h⟩ := P l0 l1 hm0 y0 hw0 hm1 y1 hw1
  refine (zelligelaw03_NatOrders.calls k _ _ l0 _ _ l1 true w (Kd.C_of_reads (d := (0 : Int)) (h1 := fun _ => rfl) hr0) hc0 (Kd.C_of_reads (d := (0 : Int)) (h1 := fun _ => rfl) hr1) hc1 h ⟨rfl⟩).mono ?_
  rintro e w' ⟨rfl, hd⟩
  exact ⟨rfl, hd⟩

end Go.Proofs.Ytafhcchjjlbojaa.ZNat
