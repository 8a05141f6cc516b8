/- What the printed functions of nat come to, told of numbers: addition. -/
import Derived.Test.YtafhcchjjlbojaaNum
import Derived.Test.YtafhcchjjlbojaaNatA
import Derived.Test.YtafhcchjjlbojaaZNatgAdd
import Derived.Test.YtafhcchjjlbojaaZNatgCore
namespace Go.Proofs.Ytafhcchjjlbojaa.ZNatP
open Go.RowKit Go.Proofs.YtafhcchjjlbojaaW.PrintWords Go.Proofs.YtafhcchjjlbojaaW.PrintLast Go.Proofs.YtafhcchjjlbojaaW.PrintMore Go.Proofs.Ytafhcchjjlbojaa.Num Go.Proofs.Ytafhcchjjlbojaa.ZNat
set_option linter.unusedVariables false
set_option linter.unusedSimpArgs false

theorem Add_l0 (a b : List Int) (ha : WB 4294967296 a) (hb : WB 4294967296 b) (hl : b.length ≤ a.length) (la : a.length < 35184372088831) : ∀ (d i : Nat) (out : List Int) (c : Nat),
    a.length - i = d → i ≤ a.length → out.length = i → WB 4294967296 out → c ≤ 1 → Aside0 (VB 4294967296 out + 4294967296 ^ i * c = VB 4294967296 (a.take i) + VB 4294967296 (b.take i)) →
    Ev (fun k => nat_Add.l0 k b out (c : Int) a (a.length : Int) (i : Int)) (NB 4294967296 (VB 4294967296 a + VB 4294967296 b)) := by
  intro d
  induction d with
  | zero =>
    intro i out c hd hi ho hW hc he
    have hi' : i = a.length := by omega
    subst hi'
    have hW2 : WB 4294967296 (out ++ [(c : Int) % 4294967296]) := by
      rw [WB_append]
      exact ⟨hW, WB_cons.2 ⟨by omega, WB_nil _⟩⟩
    have hv : VB 4294967296 (out ++ [(c : Int) % 4294967296]) = VB 4294967296 a + VB 4294967296 b := by
      rw [VB_snoc, ho]
      have he := he.out
      rw [List.take_of_length_le (Nat.le_refl _), List.take_of_length_le hl] at he
      rw [← he]
      congr 2
      omega
    have h3 := trim_own_f _ hW2 (by simp; omega)
    rw [hv] at h3
    refine Ev.step (f := fun k => (nat_trim_own.f k (out ++ [(c : Int) % 4294967296])).bind fun t => some t) (fun k => ?_) (Ev.bind h3 (Ev.now _))
    show nat_Add.l0 (k + 1) b out (c : Int) a (a.length : Int) (a.length : Int) = _
    simp only [nat_Add.l0]
    rw [if_neg (by omega), if_pos (by omega)]
  | succ d ih =>
    intro i out c hd hi ho hW hc he
    have ra := WB_rd ha i (by omega)
    have ta := take_all_rd 4294967296 a i
    have tb := take_all_rd 4294967296 b i
    rw [if_pos (by omega)] at ta
    have TA := Aside0.mk ta
    have TB := Aside0.mk tb
    clear ta tb
    have ew := wsucc i (by omega)
    by_cases hib : i < b.length
    · have rb := WB_rd hb i hib
      obtain ⟨x, hx⟩ := Int.eq_ofNat_of_zero_le ra.1
      obtain ⟨y, hy⟩ := Int.eq_ofNat_of_zero_le rb.1
      rw [hx] at ra TA
      rw [hy] at rb TB
      have es : IntKind.u64.wrap (IntKind.u64.wrap ((c : Int) + IntKind.u64.wrap ((x : Nat) : Int)) + IntKind.u64.wrap ((y : Nat) : Int)) = ((c + x + y : Nat) : Int) := by
        simp only [u64w]
        omega
      refine Ev.step (f := fun k => nat_Add.l0 k b (out ++ [(((c + x + y) % 4294967296 : Nat) : Int)]) (((c + x + y) / 4294967296 : Nat) : Int) a (a.length : Int) ((i + 1 : Nat) : Int)) (fun k => ?_) ?_
      · show nat_Add.l0 (k + 1) b out (c : Int) a (a.length : Int) (i : Int) = _
        simp only [nat_Add.l0]
        rw [if_pos (by omega), if_pos (by omega), if_pos (by omega), if_pos (by omega), if_pos (by omega), hx, hy, es, ew, nmod32, ndiv32]
      · refine ih (i + 1) _ _ (by omega) (by omega) (by simp [ho]) ?_ (by omega) ?_
        · rw [WB_append]
          exact ⟨hW, WB_cons.2 ⟨by omega, WB_nil _⟩⟩
        · refine ⟨?_⟩
          have he := he.out
          have tb := TB.out
          rw [if_pos hib] at tb
          rw [VB_snoc, ho, Int.toNat_natCast, carry_step, TA.out, tb]
          simp only [Int.toNat_natCast]
          rw [Nat.mul_add, Nat.mul_add]
          omega
    · obtain ⟨x, hx⟩ := Int.eq_ofNat_of_zero_le ra.1
      rw [hx] at ra TA
      have es : IntKind.u64.wrap ((c : Int) + IntKind.u64.wrap ((x : Nat) : Int)) = ((c + x : Nat) : Int) := by
        rw [u64in (x : Int) (by omega) (by omega), u64in _ (by omega) (by omega)]
        omega
      refine Ev.step (f := fun k => nat_Add.l0 k b (out ++ [(((c + x) % 4294967296 : Nat) : Int)]) (((c + x) / 4294967296 : Nat) : Int) a (a.length : Int) ((i + 1 : Nat) : Int)) (fun k => ?_) ?_
      · show nat_Add.l0 (k + 1) b out (c : Int) a (a.length : Int) (i : Int) = _
        simp only [nat_Add.l0]
        rw [if_pos (by omega), if_pos (by omega), if_pos (by omega), if_neg (by omega), if_pos (by omega), hx, es, ew, nmod32, ndiv32]
      · refine ih (i + 1) _ _ (by omega) (by omega) (by simp [ho]) ?_ (by omega) ?_
        · rw [WB_append]
          exact ⟨hW, WB_cons.2 ⟨by omega, WB_nil _⟩⟩
        · refine ⟨?_⟩
          have he := he.out
          have tb := TB.out
          rw [if_neg hib] at tb
          rw [VB_snoc, ho, Int.toNat_natCast, carry_step, TA.out, tb]
          simp only [Int.toNat_natCast]
          rw [Nat.mul_add]
          omega
theorem Add_j0 (a b : List Int) (ha : WB 4294967296 a) (hb : WB 4294967296 b) (hl : b.length ≤ a.length) (la : a.length < 35184372088831) :
    Ev (fun k => nat_Add.j0 k a b) (NB 4294967296 (VB 4294967296 a + VB 4294967296 b)) := by
  refine Ev.step (f := fun k => nat_Add.l0 k b [] 0 a (a.length : Int) 0) (fun k => ?_) ?_
  · show nat_Add.j0 (k + 1) a b = _
    simp only [nat_Add.j0]
    rw [w64in _ (by omega) (by omega), if_pos (by omega), if_pos (by omega)]
  · exact Add_l0 a b ha hb hl la _ 0 [] 0 rfl (by omega) rfl (WB_nil _) (by omega) ⟨by simp [VB]⟩
theorem Add_f (a b : List Int) (ha : WB 4294967296 a) (hb : WB 4294967296 b) (la : a.length < 35184372088831) (lb : b.length < 35184372088831) :
    Ev (fun k => nat_Add.f k a b) (NB 4294967296 (VB 4294967296 a + VB 4294967296 b)) := by
  unfold nat_Add.f
  by_cases h : (a.length : Int) < (b.length : Int)
  · rw [Nat.add_comm]
    exact Ev.congr (fun k => by rw [if_pos h]) (Add_j0 b a hb ha (by omega) lb)
  · exact Ev.congr (fun k => by rw [if_neg h]) (Add_j0 a b ha hb (by omega) la)

end Go.Proofs.Ytafhcchjjlbojaa.ZNatP
