-- printed by zprint.py, a program of this session's
import Derived.Test.YtafhcchjjlbojaaZNat0
import Derived.Test.YtafhcchjjlbojaaZNatgDiv
import Derived.Test.YtafhcchjjlbojaaZNatgLaw3
import Derived.Test.YtafhcchjjlbojaaZNatgParse
import Derived.Test.YtafhcchjjlbojaaZNatgRShow
import Derived.Test.YtafhcchjjlbojaaZNatgRTrim
namespace Go.Proofs.Ytafhcchjjlbojaa.ZNat
open Go.RowKit Go.Proofs.YtafhcchjjlbojaaW.PrintWords Go.Proofs.YtafhcchjjlbojaaW.PrintLast Go.Proofs.YtafhcchjjlbojaaW.PrintMore
set_option linter.unusedVariables false
set_option linter.unusedSimpArgs false

/-! ### zelligelaw03_NatShows: function 8 -/
def zelligelaw03_NatShows.f (k : Nat) (l0 : List Int) (a1 : Int) : Option (Bool) := (zelligelaw03_short.f l0).bind fun t542 => ((nat_Show.f k t542).bind fun t545 => ((nat_Parse.f k t545).bind fun bt546 => ((zelligeref03_Of.f k t542).bind fun t550 => ((zelligeref03_Show.f k t550).bind fun t553 => (if t545.toList = t553.toList then ((zelligeref03_Of.f k t542).bind fun t554 => ((zelligeref03_Same.f k bt546.1 t554).bind fun t557 => (if t557 = true then (if bt546.2 = 0 then ((nat_Of.f k a1).bind fun t558 => ((zelligeref03_Of.f k (([(a1) % 4294967296, (a1 / 4294967296) % 4294967296] : List Int))).bind fun t564 => ((zelligeref03_Same.f k t558 t564).bind fun t567 => (if t567 = true then ((zelligelaw03_lives.f k).bind fun t568 => (some t568)) else (some false))))) else (some false)) else (some false)))) else (some false))))))
theorem zelligelaw03_NatShows.mono : ∀ a0 a1 k, LeO (zelligelaw03_NatShows.f k a0 a1) (zelligelaw03_NatShows.f (k + 1) a0 a1) := by
  intro a0 a1 k
  unfold zelligelaw03_NatShows.f
  repeat' first
      | (with_reducible exact nat_Of.mono _ _)
      | (with_reducible exact nat_Parse.mono _ _)
      | (with_reducible exact nat_Show.mono _ _)
      | (with_reducible exact zelligelaw03_lives.mono _)
      | (with_reducible exact zelligeref03_Of.mono _ _)
      | (with_reducible exact zelligeref03_Same.mono _ _ _)
      | (with_reducible exact zelligeref03_Show.mono _ _)
      | (with_reducible exact LeO.refl _)
      | (with_reducible refine LeO.ite ?_ ?_)
      | (with_reducible refine LeO.bind ?_ (fun _ => ?_))
set_option maxHeartbeats 8000000 in
set_option maxRecDepth 100000 in
theorem zelligelaw03_NatShows.calls (k : Nat) (A0 : Option Addr) (c0 : Nat) (l0 : List Int) (a1 : Int) (r : Bool) (w : World) (hr0 : Kd.C (Kd.int .u32) w A0 l0.length l0) (hc0 : l0.length ≤ c0) (h : zelligelaw03_NatShows.f k l0 a1 = some r) (hT : Aside0 (r = true)) :
    Calls Try.prog 8 #[.slice A0 l0.length c0, .int .u64 a1] w fun e w' => e = .returned (.bool r) ∧ Below w.heap.size w w' := by
  have HR0 := Aside0.mk hr0
  have HC0 := Aside0.mk hc0
  clear hr0 hc0
  have HB := Aside0.mk (Below.refl w.heap.size w)
  have H : ((zelligelaw03_short.f l0).bind fun t542 => ((nat_Show.f k t542).bind fun t545 => ((nat_Parse.f k t545).bind fun bt546 => ((zelligeref03_Of.f k t542).bind fun t550 => ((zelligeref03_Show.f k t550).bind fun t553 => (if t545.toList = t553.toList then ((zelligeref03_Of.f k t542).bind fun t554 => ((zelligeref03_Same.f k bt546.1 t554).bind fun t557 => (if t557 = true then (if bt546.2 = 0 then ((nat_Of.f k a1).bind fun t558 => ((zelligeref03_Of.f k (([(a1) % 4294967296, (a1 / 4294967296) % 4294967296] : List Int))).bind fun t564 => ((zelligeref03_Same.f k t558 t564).bind fun t567 => (if t567 = true then ((zelligelaw03_lives.f k).bind fun t568 => (some t568)) else (some false))))) else (some false)) else (some false)))) else (some false))))))) = some r := h
  clear h
  obtain ⟨t542, A3, H⟩ := bindE H
  obtain ⟨t545, A4, H⟩ := bindE H
  obtain ⟨⟨t546, t547⟩, A5, H⟩ := bindE H
  replace H : ((zelligeref03_Of.f k t542).bind fun t550 => ((zelligeref03_Show.f k t550).bind fun t553 => (if t545.toList = t553.toList then ((zelligeref03_Of.f k t542).bind fun t554 => ((zelligeref03_Same.f k t546 t554).bind fun t557 => (if t557 = true then (if t547 = 0 then ((nat_Of.f k a1).bind fun t558 => ((zelligeref03_Of.f k (([(a1) % 4294967296, (a1 / 4294967296) % 4294967296] : List Int))).bind fun t564 => ((zelligeref03_Same.f k t558 t564).bind fun t567 => (if t567 = true then ((zelligelaw03_lives.f k).bind fun t568 => (some t568)) else (some false))))) else (some false)) else (some false)))) else (some false)))) = some r := H
  obtain ⟨t550, A6, H⟩ := bindE H
  obtain ⟨t553, A7, H⟩ := bindE H
  by_cases c8 : t545.toList = t553.toList
  · rw [if_pos c8] at H
    have c8b0 : (t545.toList == t553.toList) = true := beq_iff_eq.mpr c8
    have c8b1 : (t545.toList != t553.toList) = false := bne_eq_false_iff_eq.mpr c8
    clear c8
    obtain ⟨t554, A9, H⟩ := bindE H
    obtain ⟨t557, A10, H⟩ := bindE H
    by_cases c11 : t557 = true
    · subst c11
      rw [if_pos rfl] at H
      by_cases c12 : t547 = 0
      · rw [if_pos c12] at H
        have c12b0 : (t547 == 0) = true := beq_iff_eq.mpr c12
        have c12b1 : (t547 != 0) = false := bne_eq_false_iff_eq.mpr c12
        clear c12
        obtain ⟨t558, A13, H⟩ := bindE H
        obtain ⟨y561, hy561⟩ : ∃ y_ : List Int, y_ = (([(a1) % 4294967296, (a1 / 4294967296) % 4294967296] : List Int)) := ⟨_, rfl⟩
        replace H : ((zelligeref03_Of.f k y561).bind fun t564 => ((zelligeref03_Same.f k t558 t564).bind fun t567 => (if t567 = true then ((zelligelaw03_lives.f k).bind fun t568 => (some t568)) else (some false)))) = some r := by (rw [hy561]; with_reducible exact H)
        have Ny561 := Aside0.mk hy561
        clear hy561
        obtain ⟨t564, A14, H⟩ := bindE H
        obtain ⟨t567, A15, H⟩ := bindE H
        by_cases c16 : t567 = true
        · subst c16
          rw [if_pos rfl] at H
          obtain ⟨t568, A17, H⟩ := bindE H
          obtain rfl := Option.some.inj H
          go_enter Try.func8, Try.ntmps8
          go_wp2_with (first | ((with_reducible refine gate_callee (f := 24) rfl ?_); refine goesL_ (some 9) rfl rfl Try.func24 (by kernel_rfl) rfl #[.slice A0 l0.length c0] rfl (by (try simp only [List.map_toArray, List.map_cons, List.map_nil]); rfl) ?_; (with_reducible refine (zelligelaw03_short.calls _ _ l0 t542 _ ?side1 ?side2 A3.out).mono ?_); (case side1 => exact HR0.out); (case side2 => exact HC0.out); rintro e w18 ⟨v543, rfl, ho0, hb⟩; refine ⟨_, rfl, ?_⟩; have n0_ := Aside0.mk (Kd.R_lower ho0 (below_size (by with_reducible exact HB.out))); have n1_ := Aside0.mk (below_step (by with_reducible exact HB.out) hb); clear HB; have HO544 := n0_; have HB := n1_; clear n0_ n1_; (try clear hb); (try clear ho0); obtain ⟨Ao19, co19, eo19⟩ := Kd.R_slice HO544.out; subst eo19) | ((with_reducible refine gate_callee (f := 30) rfl ?_); refine goesL_ (some 11) rfl rfl Try.func30 (by kernel_rfl) rfl #[.slice Ao19 t542.length co19] rfl (by (try simp only [List.map_toArray, List.map_cons, List.map_nil]); rfl) ?_; (with_reducible refine (nat_Show.calls k _ _ t542 t545 _ ?side1 ?side2 A4.out).mono ?_); (case side1 => exact (Kd.R_reads' HO544.out).2.2); (case side2 => exact (Kd.R_reads' HO544.out).2.1); rintro e w20 ⟨rfl, hb⟩; refine ⟨_, rfl, ?_⟩; have n0_ := Aside0.mk (Kd.R_below (by exact HO544.out) hb); have n1_ := Aside0.mk (below_step (by with_reducible exact HB.out) hb); clear HO544; clear HB; have HO544 := n0_; have HB := n1_; clear n0_ n1_; (try clear hb)) | ((with_reducible refine gate_callee (f := 31) rfl ?_); refine goesL_ (some 14) rfl rfl Try.func31 (by kernel_rfl) rfl #[.string t545] rfl (by (try simp only [List.map_toArray, List.map_cons, List.map_nil]); rfl) ?_; (with_reducible refine (nat_Parse.calls k t545 t546 t547 _ A5.out).mono ?_); rintro e w21 ⟨v548, rfl, ho0, hb⟩; refine ⟨_, rfl, ?_⟩; have n0_ := Aside0.mk (Kd.R_elder' (by exact HO544.out) (Kd.R_base ho0) hb); have n1_ := Aside0.mk (Kd.R_lower (Kd.R_new' ho0 (Kd.R_lt (by exact HO544.out))) (below_size (by with_reducible exact HB.out))); have n2_ := Aside0.mk (below_step (by with_reducible exact HB.out) hb); clear HO544; clear HB; have HO544 := n0_; have HO549 := n1_; have HB := n2_; clear n0_ n1_ n2_; (try clear hb); (try clear ho0)) | ((with_reducible refine gate_callee (f := 26) rfl ?_); refine goesL_ (some 19) rfl rfl Try.func26 (by kernel_rfl) rfl #[.slice Ao19 t542.length co19] rfl (by (try simp only [List.map_toArray, List.map_cons, List.map_nil]); rfl) ?_; (with_reducible refine (zelligeref03_Of.calls k _ _ t542 t550 _ ?side1 ?side2 A6.out).mono ?_); (case side1 => exact (Kd.R_reads' HO544.out).2.2); (case side2 => exact (Kd.R_reads' HO544.out).2.1); rintro e w22 ⟨v551, rfl, ho0, hb⟩; refine ⟨_, rfl, ?_⟩; have n0_ := Aside0.mk (Kd.R_below (by exact HO544.out) hb); have n1_ := Aside0.mk (Kd.R_below (by exact HO549.out) hb); have n2_ := Aside0.mk (Kd.R_lower ho0 (below_size (by with_reducible exact HB.out))); have n3_ := Aside0.mk (below_step (by with_reducible exact HB.out) hb); clear HO544; clear HO549; clear HB; have HO544 := n0_; have HO549 := n1_; have HO552 := n2_; have HB := n3_; clear n0_ n1_ n2_ n3_; (try clear hb); (try clear ho0); obtain ⟨Ao23, co23, eo23⟩ := Kd.R_slice HO552.out; subst eo23) | ((with_reducible refine gate_callee (f := 32) rfl ?_); refine goesL_ (some 20) rfl rfl Try.func32 (by kernel_rfl) rfl #[.slice Ao23 t550.length co23] rfl (by (try simp only [List.map_toArray, List.map_cons, List.map_nil]); rfl) ?_; (with_reducible refine (zelligeref03_Show.calls k _ _ t550 t553 _ ?side1 ?side2 A7.out).mono ?_); (case side1 => exact (Kd.R_reads' HO552.out).2.2); (case side2 => exact (Kd.R_reads' HO552.out).2.1); rintro e w24 ⟨rfl, hb⟩; refine ⟨_, rfl, ?_⟩; have n0_ := Aside0.mk (Kd.R_below (by exact HO544.out) hb); have n1_ := Aside0.mk (Kd.R_below (by exact HO549.out) hb); have n2_ := Aside0.mk (Kd.R_below (by exact HO552.out) hb); have n3_ := Aside0.mk (below_step (by with_reducible exact HB.out) hb); clear HO544; clear HO549; clear HO552; clear HB; have HO544 := n0_; have HO549 := n1_; have HO552 := n2_; have HB := n3_; clear n0_ n1_ n2_ n3_; (try clear hb)) | (go_at_call 26; (with_reducible refine (zelligeref03_Of.calls k _ _ t542 t554 _ ?side1 ?side2 A9.out).mono ?_); (case side1 => exact (Kd.R_reads' HO544.out).2.2); (case side2 => exact (Kd.R_reads' HO544.out).2.1); rintro e w25 ⟨v555, rfl, ho0, hb⟩; have n0_ := Aside0.mk (Kd.R_below (by exact HO544.out) hb); have n1_ := Aside0.mk (Kd.R_below (by exact HO549.out) hb); have n2_ := Aside0.mk (Kd.R_elder' (by exact HO552.out) (Kd.R_base ho0) hb); have n3_ := Aside0.mk (Kd.R_lower (Kd.R_new' ho0 (Kd.R_lt (by exact HO552.out))) (below_size (by with_reducible exact HB.out))); have n4_ := Aside0.mk (below_step (by with_reducible exact HB.out) hb); clear HO544; clear HO549; clear HO552; clear HB; have HO544 := n0_; have HO549 := n1_; have HO552 := n2_; have HO556 := n3_; have HB := n4_; clear n0_ n1_ n2_ n3_ n4_; (try clear hb); (try clear ho0); obtain ⟨Ao26, co26, eo26⟩ := Kd.R_slice HO549.out; subst eo26; obtain ⟨Ao27, co27, eo27⟩ := Kd.R_slice HO556.out; subst eo27) | (go_at_call 29; (with_reducible refine (zelligeref03_Same.calls k _ _ t546 _ _ t554 true _ ?side1 ?side2 ?side3 ?side4 A10.out).mono ?_); (case side1 => exact (Kd.R_reads' HO549.out).2.2); (case side2 => exact (Kd.R_reads' HO549.out).2.1); (case side3 => exact (Kd.R_reads' HO556.out).2.2); (case side4 => exact (Kd.R_reads' HO556.out).2.1); rintro e w28 ⟨rfl, hb⟩; have n0_ := Aside0.mk (Kd.R_below (by exact HO544.out) hb); have n1_ := Aside0.mk (Kd.R_below (by exact HO549.out) hb); have n2_ := Aside0.mk (Kd.R_below (by exact HO552.out) hb); have n3_ := Aside0.mk (Kd.R_below (by exact HO556.out) hb); have n4_ := Aside0.mk (below_step (by with_reducible exact HB.out) hb); clear HO544; clear HO549; clear HO552; clear HO556; clear HB; have HO544 := n0_; have HO549 := n1_; have HO552 := n2_; have HO556 := n3_; have HB := n4_; clear n0_ n1_ n2_ n3_ n4_; (try clear hb)) | (go_at_call 33; (with_reducible refine (nat_Of.calls k a1 t558 _ A13.out).mono ?_); rintro e w29 ⟨v559, rfl, ho0, hb⟩; have n0_ := Aside0.mk (Kd.R_elder' (by exact HO544.out) (Kd.R_base ho0) hb); have n1_ := Aside0.mk (Kd.R_elder' (by exact HO549.out) (Kd.R_base ho0) hb); have n2_ := Aside0.mk (Kd.R_below (by exact HO552.out) hb); have n3_ := Aside0.mk (Kd.R_below (by exact HO556.out) hb); have n4_ := Aside0.mk (Kd.R_lower (Kd.R_new' (Kd.R_new' ho0 (Kd.R_lt (by exact HO544.out))) (Kd.R_lt (by exact HO549.out))) (below_size (by with_reducible exact HB.out))); have n5_ := Aside0.mk (below_step (by with_reducible exact HB.out) hb); clear HO544; clear HO549; clear HO552; clear HO556; clear HB; have HO544 := n0_; have HO549 := n1_; have HO552 := n2_; have HO556 := n3_; have HO560 := n4_; have HB := n5_; clear n0_ n1_ n2_ n3_ n4_ n5_; (try clear hb); (try clear ho0)) | ((with_reducible refine gate_dst (N := 40) rfl ?_); (try (refine gate_guard (by rfl) ?_; dsimp only)); refine Kd.R_lit (Kd.int .u32) _ 53 ?hg (N := 40) ?hd (xs := ([(a1) % 4294967296, (a1 / 4294967296) % 4294967296] : List Int)) (inner := [.int .u32 ((a1) % 4294967296), .int .u32 ((a1 / 4294967296) % 4294967296)]) (ok := fun _ => True) (okp := fun _ => True) ?hr ?hp (fun _ hk => hk) trivial (Below.refl _ _) (Nat.le_refl _) (by simp) ?_; (case hd => rfl); (case hg => rfl); (case hr => (go_simp; done)); (case hp => exact (Reps.one (show Kd.M (Kd.int .u32) _ _ _ ((a1) % 4294967296) [.int .u32 ((a1) % 4294967296)] from rfl) (Reps.one (show Kd.M (Kd.int .u32) _ _ _ ((a1 / 4294967296) % 4294967296) [.int .u32 ((a1 / 4294967296) % 4294967296)] from rfl) (Reps.none _ _)))); intro v562 w30 ho31 hb hg_ hnew_; clear hg_ hnew_; (rw [← Ny561.out] at ho31); have n0_ := Aside0.mk (Kd.R_elder' (by exact HO544.out) (Kd.R_base ho31) hb); have n1_ := Aside0.mk (Kd.R_elder' (by exact HO549.out) (Kd.R_base ho31) hb); have n2_ := Aside0.mk (Kd.R_below (by exact HO552.out) hb); have n3_ := Aside0.mk (Kd.R_below (by exact HO556.out) hb); have n4_ := Aside0.mk (Kd.R_elder' (by exact HO560.out) (Kd.R_base ho31) hb); have n5_ := Aside0.mk (Kd.R_lower (Kd.R_new' (Kd.R_new' (Kd.R_new' ho31 (Kd.R_lt (by exact HO544.out))) (Kd.R_lt (by exact HO549.out))) (Kd.R_lt (by exact HO560.out))) (below_size (by with_reducible exact HB.out))); have n6_ := Aside0.mk (below_step (by with_reducible exact HB.out) hb); clear HO544; clear HO549; clear HO552; clear HO556; clear HO560; clear HB; have HO544 := n0_; have HO549 := n1_; have HO552 := n2_; have HO556 := n3_; have HO560 := n4_; have HO563 := n5_; have HB := n6_; clear n0_ n1_ n2_ n3_ n4_ n5_ n6_; clear hb ho31; obtain ⟨Ao32, co32, eo32⟩ := Kd.R_slice HO563.out; subst eo32) | (go_at_call 26; (with_reducible refine (zelligeref03_Of.calls k _ _ y561 t564 _ ?side1 ?side2 A14.out).mono ?_); (case side1 => exact (Kd.R_reads' HO563.out).2.2); (case side2 => exact (Kd.R_reads' HO563.out).2.1); rintro e w33 ⟨v565, rfl, ho0, hb⟩; have n0_ := Aside0.mk (Kd.R_below (by exact HO544.out) hb); have n1_ := Aside0.mk (Kd.R_below (by exact HO549.out) hb); have n2_ := Aside0.mk (Kd.R_elder' (by exact HO552.out) (Kd.R_base ho0) hb); have n3_ := Aside0.mk (Kd.R_elder' (by exact HO556.out) (Kd.R_base ho0) hb); have n4_ := Aside0.mk (Kd.R_below (by exact HO560.out) hb); have n5_ := Aside0.mk (Kd.R_below (by exact HO563.out) hb); have n6_ := Aside0.mk (Kd.R_lower (Kd.R_new' (Kd.R_new' ho0 (Kd.R_lt (by exact HO552.out))) (Kd.R_lt (by exact HO556.out))) (below_size (by with_reducible exact HB.out))); have n7_ := Aside0.mk (below_step (by with_reducible exact HB.out) hb); clear HO544; clear HO549; clear HO552; clear HO556; clear HO560; clear HO563; clear HB; have HO544 := n0_; have HO549 := n1_; have HO552 := n2_; have HO556 := n3_; have HO560 := n4_; have HO563 := n5_; have HO566 := n6_; have HB := n7_; clear n0_ n1_ n2_ n3_ n4_ n5_ n6_ n7_; (try clear hb); (try clear ho0); obtain ⟨Ao34, co34, eo34⟩ := Kd.R_slice HO560.out; subst eo34; obtain ⟨Ao35, co35, eo35⟩ := Kd.R_slice HO566.out; subst eo35) | (go_at_call 29; (with_reducible refine (zelligeref03_Same.calls k _ _ t558 _ _ t564 true _ ?side1 ?side2 ?side3 ?side4 A15.out).mono ?_); (case side1 => exact (Kd.R_reads' HO560.out).2.2); (case side2 => exact (Kd.R_reads' HO560.out).2.1); (case side3 => exact (Kd.R_reads' HO566.out).2.2); (case side4 => exact (Kd.R_reads' HO566.out).2.1); rintro e w36 ⟨rfl, hb⟩; have n0_ := Aside0.mk (Kd.R_below (by exact HO544.out) hb); have n1_ := Aside0.mk (Kd.R_below (by exact HO549.out) hb); have n2_ := Aside0.mk (Kd.R_below (by exact HO552.out) hb); have n3_ := Aside0.mk (Kd.R_below (by exact HO556.out) hb); have n4_ := Aside0.mk (Kd.R_below (by exact HO560.out) hb); have n5_ := Aside0.mk (Kd.R_below (by exact HO563.out) hb); have n6_ := Aside0.mk (Kd.R_below (by exact HO566.out) hb); have n7_ := Aside0.mk (below_step (by with_reducible exact HB.out) hb); clear HO544; clear HO549; clear HO552; clear HO556; clear HO560; clear HO563; clear HO566; clear HB; have HO544 := n0_; have HO549 := n1_; have HO552 := n2_; have HO556 := n3_; have HO560 := n4_; have HO563 := n5_; have HO566 := n6_; have HB := n7_; clear n0_ n1_ n2_ n3_ n4_ n5_ n6_ n7_; (try clear hb)) | (go_at_call 27; (with_reducible refine (zelligelaw03_lives.calls k  t568 _ A17.out).mono ?_); rintro e w37 ⟨rfl, hb⟩; have n0_ := Aside0.mk (Kd.R_below (by exact HO544.out) hb); have n1_ := Aside0.mk (Kd.R_below (by exact HO549.out) hb); have n2_ := Aside0.mk (Kd.R_below (by exact HO552.out) hb); have n3_ := Aside0.mk (Kd.R_below (by exact HO556.out) hb); have n4_ := Aside0.mk (Kd.R_below (by exact HO560.out) hb); have n5_ := Aside0.mk (Kd.R_below (by exact HO563.out) hb); have n6_ := Aside0.mk (Kd.R_below (by exact HO566.out) hb); have n7_ := Aside0.mk (below_step (by with_reducible exact HB.out) hb); clear HO544; clear HO549; clear HO552; clear HO556; clear HO560; clear HO563; clear HO566; clear HB; have HO544 := n0_; have HO549 := n1_; have HO552 := n2_; have HO556 := n3_; have HO560 := n4_; have HO563 := n5_; have HO566 := n6_; have HB := n7_; clear n0_ n1_ n2_ n3_ n4_ n5_ n6_ n7_; (try clear hb)))
          go_ret
          exact ⟨by rfl, by with_reducible exact HB.out⟩
        · replace c16 := Bool.eq_false_iff.mpr c16
          subst c16
          rw [if_neg (show ¬ (false = true) by decide)] at H
          exact absurd (Option.some.inj (H.trans (congrArg some hT.out))) (by decide)
      · rw [if_neg c12] at H
        have c12b0 : (t547 == 0) = false := beq_eq_false_iff_ne.mpr c12
        have c12b1 : (t547 != 0) = true := bne_iff_ne.mpr c12
        exact absurd (Option.some.inj (H.trans (congrArg some hT.out))) (by decide)
    · replace c11 := Bool.eq_false_iff.mpr c11
      subst c11
      rw [if_neg (show ¬ (false = true) by decide)] at H
      exact absurd (Option.some.inj (H.trans (congrArg some hT.out))) (by decide)
  · rw [if_neg c8] at H
    have c8b0 : (t545.toList == t553.toList) = false := beq_eq_false_iff_ne.mpr c8
    have c8b1 : (t545.toList != t553.toList) = true := bne_iff_ne.mpr c8
    exact absurd (Option.some.inj (H.trans (congrArg some hT.out))) (by decide)

/-- THE ONE PURE STATEMENT of zelligelaw03_NatShows: yours. -/
def zelligelaw03_NatShows.Pure : Prop := ∀ (l0 : List Int) (a1 : Int), l0.length ≤ maxLen → l0.length * 4 ≤ 140737488351232 → (∀ x ∈ l0, (Lit.int .u32 x).wf = true) → (Lit.int .u64 a1).wf = true → ∃ k, zelligelaw03_NatShows.f k l0 a1 = some true
theorem zelligelaw03_NatShows.walk (P : zelligelaw03_NatShows.Pure) (a0 : Option Addr) (len0 cap0 : Nat) (z0 : List Int) (a1 : Int) (w : World) (w0 : (a0 = none ∧ len0 = 0 ∧ cap0 = 0 ∧ z0 = []) ∨ ∃ x, a0 = some x ∧ len0 ≤ cap0 ∧ cap0 ≤ maxLen ∧ z0.length = cap0 ∧ (∀ i, i < z0.length → w.cell? (x.add i) = some (.int .u32 (z0.getD i 0))) ∧ ∀ n ∈ z0, (Lit.int .u32 n).wf = true) (y0 : len0 * 4 ≤ 140737488351232) (w1 : (Lit.int .u64 a1).wf = true) :
    Calls Try.prog 8 #[.slice a0 len0 cap0, .int .u64 a1] w fun e w' => e = .returned (.bool true) ∧ Below w.heap.size w w' := by
  obtain ⟨l0, rfl, hr0, hm0, hw0, hc0⟩ := ReadsInt.ofRowC w0
  obtain ⟨k, h⟩ := P l0 a1 hm0 y0 hw0 w1
  refine (zelligelaw03_NatShows.calls k _ _ l0 a1 true w (Kd.C_of_reads (d := (0 : Int)) (h1 := fun _ => rfl) hr0) hc0 h ⟨rfl⟩).mono ?_
  rintro e w' ⟨rfl, hd⟩
  exact ⟨rfl, hd⟩

end Go.Proofs.Ytafhcchjjlbojaa.ZNat
