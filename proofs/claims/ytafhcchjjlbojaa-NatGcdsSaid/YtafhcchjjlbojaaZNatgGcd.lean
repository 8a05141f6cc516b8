-- printed by zprint.py, a program of this session's
import Derived.Test.YtafhcchjjlbojaaZNat0
import Derived.Test.YtafhcchjjlbojaaZNatgCore
import Derived.Test.YtafhcchjjlbojaaZNatgDiv
namespace Go.Proofs.Ytafhcchjjlbojaa.ZNat
open Go.RowKit Go.Proofs.YtafhcchjjlbojaaW.PrintWords Go.Proofs.YtafhcchjjlbojaaW.PrintLast Go.Proofs.YtafhcchjjlbojaaW.PrintMore
set_option linter.unusedVariables false
set_option linter.unusedSimpArgs false

/-! ### nat_Gcd: function 35 -/
def nat_Gcd.l0 : Nat → List Int → List Int → Option (List Int)
  | 0, _, _ => none
  | k + 1, x0, x1 => if (x1.length : Int) > 0 then ((nat_divmod.f k x0 x1).bind fun bt621 => (nat_Gcd.l0 k x1 bt621.2)) else (some x0)
def nat_Gcd.f (k : Nat) (l0 : List Int) (l1 : List Int) : Option (List Int) := (nat_trim.f k l0).bind fun t609 => ((api_Nat_uint32.f t609).bind fun t612 => ((nat_trim.f k l1).bind fun t615 => ((api_Nat_uint32.f t615).bind fun t618 => (nat_Gcd.l0 k t612 t618))))
theorem nat_Gcd.mono_l : ∀ k, (∀ y0 y1, LeO (nat_Gcd.l0 k y0 y1) (nat_Gcd.l0 (k + 1) y0 y1))
  | 0 => fun _ _ r h => by simp [nat_Gcd.l0] at h
  | k + 1 => by
    have ih0 := nat_Gcd.mono_l k
    · intro y0 y1
      unfold nat_Gcd.l0
      repeat' first
      | (with_reducible exact ih0 _ _)
      | (with_reducible exact nat_divmod.mono _ _ _)
      | (with_reducible exact LeO.refl _)
      | (with_reducible refine LeO.ite ?_ ?_)
      | (with_reducible refine LeO.bind ?_ (fun _ => ?_))
theorem nat_Gcd.mono : ∀ a0 a1 k, LeO (nat_Gcd.f k a0 a1) (nat_Gcd.f (k + 1) a0 a1) := by
  intro a0 a1 k
  have ih0 := nat_Gcd.mono_l k
  unfold nat_Gcd.f
  repeat' first
      | (with_reducible exact ih0 _ _)
      | (with_reducible exact nat_trim.mono _ _)
      | (with_reducible exact LeO.refl _)
      | (with_reducible refine LeO.bind ?_ (fun _ => ?_))
set_option maxHeartbeats 8000000 in
set_option maxRecDepth 100000 in
theorem nat_Gcd.calls (k : Nat) (A0 : Option Addr) (c0 : Nat) (l0 : List Int) (A1 : Option Addr) (c1 : Nat) (l1 : List Int) (r : List Int) (w : World) (hr0 : Kd.C (Kd.int .u32) w A0 l0.length l0) (hc0 : l0.length ≤ c0) (hr1 : Kd.C (Kd.int .u32) w A1 l1.length l1) (hc1 : l1.length ≤ c1) (h : nat_Gcd.f k l0 l1 = some r) :
    Calls Try.prog 35 #[.slice A0 l0.length c0, .slice A1 l1.length c1] w fun e w' => ∃ v0_ : Value, e = .returned (v0_) ∧ Kd.R (Kd.int .u32) 53 w' w.heap.size (fun _ => True) v0_ r ∧ Below w.heap.size w w' := by
  have HR0 := Aside0.mk hr0
  have HC0 := Aside0.mk hc0
  clear hr0 hc0
  have HR1 := Aside0.mk hr1
  have HC1 := Aside0.mk hc1
  clear hr1 hc1
  have HB := Aside0.mk (Below.refl w.heap.size w)
  have H : ((nat_trim.f k l0).bind fun t609 => ((api_Nat_uint32.f t609).bind fun t612 => ((nat_trim.f k l1).bind fun t615 => ((api_Nat_uint32.f t615).bind fun t618 => (nat_Gcd.l0 k t612 t618))))) = some r := h
  clear h
  obtain ⟨t609, A3, H⟩ := bindE H
  obtain ⟨t612, A4, H⟩ := bindE H
  obtain ⟨t615, A5, H⟩ := bindE H
  obtain ⟨t618, A6, H⟩ := bindE H
  have H' := Aside0.mk H
  clear H
  go_enter Try.func35, Try.ntmps35
  go_wp2_with (first | ((with_reducible refine gate_callee (f := 56) rfl ?_); refine goesL_ (some 8) rfl rfl Try.func56 (by kernel_rfl) rfl #[.slice A0 l0.length c0] rfl (by (try simp only [List.map_toArray, List.map_cons, List.map_nil]); rfl) ?_; (with_reducible refine (nat_trim.calls k (fun k_ => k_ < w.heap.size) _ _ l0 t609 _ ?side1 A3.out).mono ?_); (case side1 => exact Kd.V_mk HC0.out (Kd.F_below (Kd.C_F (Kd.heap_int .u32) HR0.out) (by with_reducible exact HB.out))); rintro e w7 ⟨v610, rfl, ho0, hb⟩; refine ⟨_, rfl, ?_⟩; have n0_ := Aside0.mk (Kd.V_lower (Kd.V_mono (ok' := fun k_ => True) ho0 (fun k_ hk_ => trivial)) (below_size (by with_reducible exact HB.out))); have n1_ := Aside0.mk (below_step (by with_reducible exact HB.out) hb); clear HB; have HO611 := n0_; have HB := n1_; clear n0_ n1_; (try clear hb); (try clear ho0); obtain ⟨Ao8, co8, eo8⟩ := Kd.V_slice HO611.out; subst eo8) | ((with_reducible refine gate_callee (f := 61) rfl ?_); refine goesL_ (some 9) rfl rfl Try.func61 (by kernel_rfl) rfl #[.slice Ao8 t609.length co8] rfl (by (try simp only [List.map_toArray, List.map_cons, List.map_nil]); rfl) ?_; (with_reducible refine (api_Nat_uint32.calls _ _ t609 t612 _ ?side1 ?side2 A4.out).mono ?_); (case side1 => exact (Kd.V_reads' HO611.out).2.2); (case side2 => exact (Kd.V_reads' HO611.out).2.1); rintro e w9 ⟨v613, rfl, ho0, hb⟩; refine ⟨_, rfl, ?_⟩; have n0_ := Aside0.mk (Kd.V_elder' (by exact HO611.out) (Kd.R_base ho0) hb); have n1_ := Aside0.mk (Kd.R_lower ho0 (below_size (by with_reducible exact HB.out))); have n2_ := Aside0.mk (below_step (by with_reducible exact HB.out) hb); clear HO611; clear HB; have HO611 := n0_; have HO614 := n1_; have HB := n2_; clear n0_ n1_ n2_; (try clear hb); (try clear ho0)) | ((with_reducible refine gate_callee (f := 56) rfl ?_); refine goesL_ (some 11) rfl rfl Try.func56 (by kernel_rfl) rfl #[.slice A1 l1.length c1] rfl (by (try simp only [List.map_toArray, List.map_cons, List.map_nil]); rfl) ?_; (with_reducible refine (nat_trim.calls k (fun k_ => k_ < w.heap.size) _ _ l1 t615 _ ?side1 A5.out).mono ?_); (case side1 => exact Kd.V_mk HC1.out (Kd.F_below (Kd.C_F (Kd.heap_int .u32) HR1.out) (by with_reducible exact HB.out))); rintro e w10 ⟨v616, rfl, ho0, hb⟩; refine ⟨_, rfl, ?_⟩; have n0_ := Aside0.mk (Kd.V_below (by exact HO611.out) hb); have n1_ := Aside0.mk (Kd.R_below (by exact HO614.out) hb); have n2_ := Aside0.mk (Kd.V_lower (Kd.V_mono (ok' := fun k_ => some k_ ≠ (v613 : Value).ownBlock) ho0 (fun k_ hk_ => Or.elim hk_ (fun hs_ => fun e_ => Nat.not_le.2 hs_ (Kd.R_base HO614.out k_ e_.symm)) (fun hn_ => (Kd.fresh' (Kd.R_lt (by exact HO614.out)) k_ hn_)))) (below_size (by with_reducible exact HB.out))); have n3_ := Aside0.mk (below_step (by with_reducible exact HB.out) hb); clear HO611; clear HO614; clear HB; have HO611 := n0_; have HO614 := n1_; have HO617 := n2_; have HB := n3_; clear n0_ n1_ n2_ n3_; (try clear hb); (try clear ho0); obtain ⟨Ao11, co11, eo11⟩ := Kd.V_slice HO617.out; subst eo11) | ((with_reducible refine gate_callee (f := 61) rfl ?_); refine goesL_ (some 12) rfl rfl Try.func61 (by kernel_rfl) rfl #[.slice Ao11 t615.length co11] rfl (by (try simp only [List.map_toArray, List.map_cons, List.map_nil]); rfl) ?_; (with_reducible refine (api_Nat_uint32.calls _ _ t615 t618 _ ?side1 ?side2 A6.out).mono ?_); (case side1 => exact (Kd.V_reads' HO617.out).2.2); (case side2 => exact (Kd.V_reads' HO617.out).2.1); rintro e w12 ⟨v619, rfl, ho0, hb⟩; refine ⟨_, rfl, ?_⟩; have n0_ := Aside0.mk (Kd.V_elder' (by exact HO611.out) (Kd.R_base ho0) hb); have n1_ := Aside0.mk (Kd.R_elder' (by exact HO614.out) (Kd.R_base ho0) hb); have n2_ := Aside0.mk (Kd.V_elder' (by exact HO617.out) (Kd.R_base ho0) hb); have n3_ := Aside0.mk (Kd.R_lower (Kd.R_new' ho0 (Kd.R_lt (by exact HO614.out))) (below_size (by with_reducible exact HB.out))); have n4_ := Aside0.mk (below_step (by with_reducible exact HB.out) hb); clear HO611; clear HO614; clear HO617; clear HB; have HO611 := n0_; have HO614 := n1_; have HO617 := n2_; have HO620 := n3_; have HB := n4_; clear n0_ n1_ n2_ n3_ n4_; (try clear hb); (try clear ho0)))
  go_loopg [0, 1] k (fun kq v0 v1 w' => ∃ (x0_1 : List Int) (x1_1 : List Int), Aside0 (nat_Gcd.l0 kq x0_1 x1_1 = some r) ∧ Aside0 (kq ≤ k) ∧ Aside0 (Kd.R (Kd.int .u32) 53 w' w.heap.size (fun k_ => some k_ ≠ (v1 : Value).ownBlock) v0 x0_1) ∧ Aside0 (Kd.R (Kd.int .u32) 53 w' w.heap.size (fun k_ => some k_ ≠ (v0 : Value).ownBlock) v1 x1_1) ∧ Aside0 (Below w.heap.size w w'))
  case atStart => exact ⟨(t612), (t618), H', ⟨Nat.le_refl _⟩, ⟨by exact Kd.R_mono HO614.out (fun _ hk => hk.2)⟩, ⟨by exact Kd.R_mono HO620.out (fun _ hk => hk.2)⟩, ⟨by with_reducible exact HB.out⟩⟩
  case round =>
    clear H'
    obtain ⟨x0_1, x1_1, HA, HK1, HO_0, HO_1, HB⟩ := hrel
    cases gk with
    | zero => exact absurd HA.out (by simp [nat_Gcd.l0])
    | succ k1 =>
      have H := HA.out
      clear HA
      simp only [nat_Gcd.l0] at H
      by_cases c13 : (x1_1.length : Int) > 0
      · rw [if_pos c13] at H
        have c13b0 : decide (0 < (x1_1.length : Int)) = true := decide_eq_true c13
        have c13b1 : decide (0 < x1_1.length) = true := decide_eq_true (by omega)
        clear c13
        obtain ⟨⟨t621, t622⟩, A14, H⟩ := bindE H
        replace H : (nat_Gcd.l0 k1 x1_1 t622) = some r := H
        have H' := Aside0.mk H
        clear H
        obtain ⟨Ao15, co15, eo15⟩ := Kd.R_slice HO_1.out
        subst eo15
        obtain ⟨Ao16, co16, eo16⟩ := Kd.R_slice HO_0.out
        subst eo16
        go_wp2_with (((with_reducible refine gate_callee (f := 57) rfl ?_); refine goesL_ (some 19) rfl rfl Try.func57 (by kernel_rfl) rfl #[.slice Ao16 x0_1.length co16, .slice Ao15 x1_1.length co15] rfl (by (try simp only [List.map_toArray, List.map_cons, List.map_nil]); rfl) ?_; (with_reducible refine (nat_divmod.calls k1 _ _ x0_1 _ _ x1_1 t621 t622 _ ?side1 ?side2 ?side3 ?side4 A14.out).mono ?_); (case side1 => exact (Kd.R_reads' HO_0.out).2.2); (case side2 => exact (Kd.R_reads' HO_0.out).2.1); (case side3 => exact (Kd.R_reads' HO_1.out).2.2); (case side4 => exact (Kd.R_reads' HO_1.out).2.1); rintro e w17 ⟨v623, v625, rfl, ho0, ho1, hb⟩; refine ⟨_, rfl, ?_⟩; have n0_ := Aside0.mk (Kd.R_mono (Kd.R_told (Kd.R_told (Kd.R_old (by exact HO_0.out) hb) (Kd.R_base ho0)) (Kd.R_base ho1)) (fun _ h_ => h_.1)); have n1_ := Aside0.mk (Kd.R_mono (Kd.R_told (Kd.R_told (Kd.R_old (by exact HO_1.out) hb) (Kd.R_base ho0)) (Kd.R_base ho1)) (fun _ h_ => h_.1)); have n2_ := Aside0.mk (Kd.R_lower (Kd.R_new' (Kd.R_new' ho0 (Kd.R_lt (by exact HO_0.out))) (Kd.R_lt (by exact HO_1.out))) (below_size (by with_reducible exact HB.out))); have n3_ := Aside0.mk (Kd.R_lower (Kd.R_new' (Kd.R_new' ho1 (Kd.R_lt (by exact HO_0.out))) (Kd.R_lt (by exact HO_1.out))) (below_size (by with_reducible exact HB.out))); have n4_ := Aside0.mk (below_step (by with_reducible exact HB.out) hb); clear HO_0; clear HO_1; clear HB; have HO_0 := n0_; have HO_1 := n1_; have HO624 := n2_; have HO626 := n3_; have HB := n4_; clear n0_ n1_ n2_ n3_ n4_; (try clear hb); (try clear ho0); (try clear ho1)))
        go_roundg k1
        case measure => have := HK1.out; omega
        case rel => exact ⟨(x1_1), (t622), H', ⟨by have := HK1.out; omega⟩, ⟨by exact Kd.R_mono HO_1.out (fun _ hk => hk.2)⟩, ⟨by exact Kd.R_mono HO626.out (fun _ hk => hk.2)⟩, ⟨by with_reducible exact HB.out⟩⟩
      · rw [if_neg c13] at H
        have c13b0 : decide (0 < (x1_1.length : Int)) = false := decide_eq_false c13
        have c13b1 : decide (0 < x1_1.length) = false := decide_eq_false (by omega)
        clear c13
        obtain rfl := Option.some.inj H
        obtain ⟨Ao18, co18, eo18⟩ := Kd.R_slice HO_1.out
        subst eo18
        go_wp2
        go_ret
        exact ⟨_, by rfl, by exact Kd.R_mono HO_0.out (fun _ hk => trivial), by with_reducible exact HB.out⟩

end Go.Proofs.Ytafhcchjjlbojaa.ZNat
