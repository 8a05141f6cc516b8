/- The models of the functions, and what they lean on. -/
import Derived.Below
import Derived.Laws.BytesArg
import Derived.Tactics
import Derived.Lib.ConvBytes
import Derived.Laws.Slices
import Derived.WalkKit
import Derived.KernelRfl
import Derived.RowKit3
import Derived.WideLaws
import Derived.Laws.Rows
import Derived.Lib.AppendStr
import Derived.Laws.IdiomCopy
import Derived.Laws.BitsLemmas
import Derived.RowKit
import Derived.IntWalk
set_option linter.unusedVariables false
set_option linter.unusedSimpArgs false
/- A few words that the models and the plain laws lean on (of the words that the printer wrote). -/
namespace Go.Proofs.YtofklpmlgfbmlaaGreat.Wd
open Go.RowKit
set_option linter.unusedVariables false
set_option linter.unusedSimpArgs false
structure Aside0 (p : Prop) : Prop where mk :: (out : p)
def rd (xs : List Int) (i : Int) : Int := xs.getD i.toNat 0
def bt (s : ByteArray) (i : Int) : Int := if h : i.toNat < s.size then ((s[i.toNat]'h).toNat : Int) else 0
theorem bt_range (s : ByteArray) (i : Int) : 0 ≤ bt s i ∧ bt s i ≤ 255 := by
  unfold bt
  split
  · rename_i h
    have := (s[i.toNat]'h).toNat_lt
    omega
  · omega
def bytesOf (s : ByteArray) : List Int := s.data.toList.map fun b => (b.toNat : Int)
theorem data_length (s : ByteArray) : s.data.toList.length = s.size := by rw [Array.length_toList]; rfl
theorem bytesOf_length (s : ByteArray) : (bytesOf s).length = s.size := by rw [bytesOf, List.length_map, data_length]
def LeO {α : Type} (a b : Option α) : Prop := ∀ r, a = some r → b = some r
theorem LeO.refl {α : Type} (a : Option α) : LeO a a := fun _ h => h
theorem LeO.none {α : Type} (b : Option α) : LeO Option.none b := fun _ h => by cases h
theorem LeO.trans {α : Type} {a b c : Option α} (h : LeO a b) (k : LeO b c) : LeO a c := fun r hr => k r (h r hr)
theorem LeO.ite {α : Type} {c : Prop} [Decidable c] {a a' b b' : Option α} (h : LeO a a') (k : LeO b b') : LeO (if c then a else b) (if c then a' else b') := by
  split
  · exact h
  · exact k
theorem LeO.bind {α β : Type} {a a' : Option α} {f f' : α → Option β} (h : LeO a a') (k : ∀ x, LeO (f x) (f' x)) : LeO (a.bind f) (a'.bind f') := by
  intro r hr
  obtain ⟨x, hx, hf⟩ := Option.bind_eq_some_iff.1 hr
  exact Option.bind_eq_some_iff.2 ⟨x, h x hx, k x r hf⟩
theorem LeO.map {α β : Type} {a a' : Option α} (f : α → β) (h : LeO a a') : LeO (a.map f) (a'.map f) := by
  intro r hr
  obtain ⟨x, hx, hf⟩ := Option.map_eq_some_iff.1 hr
  exact Option.map_eq_some_iff.2 ⟨x, h x hx, hf⟩
theorem more_rounds {α : Type} {g : Nat → Option α} (h : ∀ k, LeO (g k) (g (k + 1))) (k : Nat) : ∀ j, LeO (g k) (g (k + j))
  | 0 => LeO.refl _
  | j + 1 => (more_rounds h k j).trans (h (k + j))
theorem at_rounds {α : Type} {g : Nat → Option α} (h : ∀ k, LeO (g k) (g (k + 1))) {k k' : Nat} (hk : k ≤ k') {r : α} (hr : g k = some r) : g k' = some r := by
  have := more_rounds h k (k' - k) r hr
  rwa [Nat.add_sub_cancel' hk] at this
def Ev {α : Type} (g : Nat → Option α) (r : α) : Prop := ∃ K, ∀ k, K ≤ k → g k = some r
theorem Ev.of {α : Type} {g : Nat → Option α} {r : α} (hg : ∀ k, LeO (g k) (g (k + 1))) {k : Nat} (h : g k = some r) : Ev g r := ⟨k, fun _ hk => at_rounds hg hk h⟩
theorem Ev.now {α : Type} (r : α) : Ev (fun _ => some r) r := ⟨0, fun _ _ => rfl⟩
theorem Ev.rounds {α : Type} {g : Nat → Option α} {r : α} (h : Ev g r) : ∃ k, g k = some r := by
  obtain ⟨K, h⟩ := h
  exact ⟨K, h K (Nat.le_refl _)⟩
theorem Ev.bind {α β : Type} {g : Nat → Option α} {f : Nat → α → Option β} {a : α} {r : β} (h : Ev g a) (k : Ev (fun n => f n a) r) : Ev (fun n => (g n).bind (f n)) r := by
  obtain ⟨K, h⟩ := h
  obtain ⟨K', k⟩ := k
  refine ⟨max K K', fun n hn => ?_⟩
  have h1 := h n (by omega)
  have h2 := k n (by omega)
  simp only [h1, Option.bind_some]
  exact h2
theorem Ev.step {α : Type} {g f : Nat → Option α} {r : α} (h : ∀ k, g (k + 1) = f k) (k : Ev f r) : Ev g r := by
  obtain ⟨K, k⟩ := k
  refine ⟨K + 1, fun n hn => ?_⟩
  obtain ⟨m, rfl⟩ : ∃ m, n = m + 1 := ⟨n - 1, by omega⟩
  rw [h]
  exact k m (by omega)
theorem Ev.congr {α : Type} {g f : Nat → Option α} {r : α} (h : ∀ k, g k = f k) (k : Ev f r) : Ev g r := by
  obtain ⟨K, k⟩ := k
  exact ⟨K, fun n hn => (h n).trans (k n hn)⟩
theorem i64_w (n : Int) : IntKind.i64.wrap n = Go.RowKit.wrap64 n := by unfold Go.RowKit.wrap64; exact IntKind.wrap_i64 n
def shl (k : IntKind) (x y : Int) : Int := k.wrap (x * 2 ^ min y.toNat k.bits)
def shr (k : IntKind) (x y : Int) : Int := x / 2 ^ min y.toNat k.bits
end Go.Proofs.YtofklpmlgfbmlaaGreat.Wd
/- What the printed functions compute (models): printed by mkmod.py and mkmod3.py, programs of this session's, out of printed texts. -/
namespace Go.Proofs.YtofklpmlgfbmlaaGreat.ZRat
open Go.RowKit Go.Proofs.YtofklpmlgfbmlaaGreat.Wd
set_option linter.unusedVariables false
set_option linter.unusedSimpArgs false
def nat_trim.l0 : Nat → List Int → Option (List Int)
  | 0, _ => none
  | k + 1, x0 => if (x0.length : Int) > 0 then (if 0 ≤ (wrap64 ((x0.length : Int) - 1)) then (if (wrap64 ((x0.length : Int) - 1)) < (x0.length : Int) then (if (rd x0 (wrap64 ((x0.length : Int) - 1))) = 0 then (if (wrap64 ((x0.length : Int) - 1)) ≤ (x0.length : Int) then (nat_trim.l0 k (x0.take ((wrap64 ((x0.length : Int) - 1)) : Int).toNat)) else (none)) else (some x0)) else (none)) else (none)) else (some x0)
def nat_trim.f (k : Nat) (l0 : List Int) : Option (List Int) := nat_trim.l0 k l0
theorem nat_trim.mono_l : ∀ k, (∀ y0, LeO (nat_trim.l0 k y0) (nat_trim.l0 (k + 1) y0))
  | 0 => fun _ r h => by simp [nat_trim.l0] at h
  | k + 1 => by
    have ih0 := nat_trim.mono_l k
    · intro y0
      unfold nat_trim.l0
      repeat' first
      | (with_reducible exact ih0 _)
      | (with_reducible exact LeO.refl _)
      | (with_reducible exact LeO.none _)
      | (with_reducible refine LeO.ite ?_ ?_)
      | (with_reducible refine LeO.bind ?_ (fun _ => ?_))
      | exact ih0 _
      | exact LeO.none _
      | refine LeO.ite ?_ ?_
      | refine LeO.bind ?_ (fun _ => ?_)
theorem nat_trim.mono : ∀ a0 k, LeO (nat_trim.f k a0) (nat_trim.f (k + 1) a0) := by
  intro a0 k
  have ih0 := nat_trim.mono_l k
  unfold nat_trim.f
  repeat' first
      | (with_reducible exact ih0 _)
      | (with_reducible exact LeO.refl _)
      | (with_reducible exact LeO.none _)
      | (with_reducible refine LeO.ite ?_ ?_)
      | (with_reducible refine LeO.bind ?_ (fun _ => ?_))
      | exact ih0 _
      | exact LeO.none _
      | refine LeO.ite ?_ ?_
      | refine LeO.bind ?_ (fun _ => ?_)
def api_Nat_uint32.f (l0 : List Int) : Option (List Int) := if l0.length < 35184372088832 then some l0 else none
def nat_cmp.l0 : Nat → List Int → List Int → Int → Option (Int)
  | 0, _, _, _ => none
  | k + 1, x0, x1, x5 => if x5 ≥ 0 then (if 0 ≤ x5 then (if x5 < (x0.length : Int) then (if x5 < (x1.length : Int) then (if (rd x0 x5) < (rd x1 x5) then (some (-1)) else (if (rd x0 x5) > (rd x1 x5) then (some 1) else (nat_cmp.l0 k x0 x1 (wrap64 (x5 - 1))))) else (none)) else (none)) else (none)) else (some 0)
def nat_cmp.f (k : Nat) (l0 : List Int) (l1 : List Int) : Option (Int) := (nat_trim.f k l0).bind fun t240 => ((nat_trim.f k l1).bind fun t243 => (if (t240.length : Int) = (t243.length : Int) then (nat_cmp.l0 k t240 t243 (wrap64 ((t240.length : Int) - 1))) else (if (t240.length : Int) < (t243.length : Int) then (some (-1)) else (some 1))))
theorem nat_cmp.mono_l : ∀ k, (∀ y0 y1 y2, LeO (nat_cmp.l0 k y0 y1 y2) (nat_cmp.l0 (k + 1) y0 y1 y2))
  | 0 => fun _ _ _ r h => by simp [nat_cmp.l0] at h
  | k + 1 => by
    have ih0 := nat_cmp.mono_l k
    · intro y0 y1 y2
      unfold nat_cmp.l0
      repeat' first
      | (with_reducible exact ih0 _ _ _)
      | (with_reducible exact nat_trim.mono _ _)
      | (with_reducible exact LeO.refl _)
      | (with_reducible exact LeO.none _)
      | (with_reducible refine LeO.ite ?_ ?_)
      | (with_reducible refine LeO.bind ?_ (fun _ => ?_))
      | exact ih0 _ _ _
      | exact nat_trim.mono _ _
      | exact LeO.none _
      | refine LeO.ite ?_ ?_
      | refine LeO.bind ?_ (fun _ => ?_)
theorem nat_cmp.mono : ∀ a0 a1 k, LeO (nat_cmp.f k a0 a1) (nat_cmp.f (k + 1) a0 a1) := by
  intro a0 a1 k
  have ih0 := nat_cmp.mono_l k
  unfold nat_cmp.f
  repeat' first
      | (with_reducible exact ih0 _ _ _)
      | (with_reducible exact nat_trim.mono _ _)
      | (with_reducible exact LeO.refl _)
      | (with_reducible exact LeO.none _)
      | (with_reducible refine LeO.ite ?_ ?_)
      | (with_reducible refine LeO.bind ?_ (fun _ => ?_))
      | exact ih0 _ _ _
      | exact nat_trim.mono _ _
      | exact LeO.none _
      | refine LeO.ite ?_ ?_
      | refine LeO.bind ?_ (fun _ => ?_)
def nat_short.l0 : Nat → List Int → Int → Int → Int → Option (Int × List Int)
  | 0, _, _, _, _ => none
  | k + 1, x0, x1, x5, x6 => if x6 ≥ 0 then (if 0 ≤ x6 then (if x6 < (x0.length : Int) then (if (IntKind.u64.wrap (x1)) = 0 then (none) else (nat_short.l0 k (x0.set (x6 : Int).toNat ((IntKind.u64.wrap (Int.tdiv (Go.bits .or .u64 (IntKind.u64.wrap (x5 * 4294967296)) (IntKind.u64.wrap (rd x0 x6))) (IntKind.u64.wrap (x1)))) % 4294967296)) x1 (Int.tmod (Go.bits .or .u64 (IntKind.u64.wrap (x5 * 4294967296)) (IntKind.u64.wrap (rd x0 x6))) (IntKind.u64.wrap (x1))) (wrap64 (x6 - 1)))) else (none)) else (none)) else (some ((x5) % 4294967296, x0))
def nat_short.f (k : Nat) (l0 : List Int) (a1 : Int) : Option (Int × List Int) := nat_short.l0 k l0 a1 0 (wrap64 ((l0.length : Int) - 1))
theorem nat_short.mono_l : ∀ k, (∀ y0 y1 y2 y3, LeO (nat_short.l0 k y0 y1 y2 y3) (nat_short.l0 (k + 1) y0 y1 y2 y3))
  | 0 => fun _ _ _ _ r h => by simp [nat_short.l0] at h
  | k + 1 => by
    have ih0 := nat_short.mono_l k
    · intro y0 y1 y2 y3
      unfold nat_short.l0
      repeat' first
      | (with_reducible exact ih0 _ _ _ _)
      | (with_reducible exact LeO.refl _)
      | (with_reducible exact LeO.none _)
      | (with_reducible refine LeO.ite ?_ ?_)
      | (with_reducible refine LeO.bind ?_ (fun _ => ?_))
      | exact ih0 _ _ _ _
      | exact LeO.none _
      | refine LeO.ite ?_ ?_
      | refine LeO.bind ?_ (fun _ => ?_)
theorem nat_short.mono : ∀ a0 a1 k, LeO (nat_short.f k a0 a1) (nat_short.f (k + 1) a0 a1) := by
  intro a0 a1 k
  have ih0 := nat_short.mono_l k
  unfold nat_short.f
  repeat' first
      | (with_reducible exact ih0 _ _ _ _)
      | (with_reducible exact LeO.refl _)
      | (with_reducible exact LeO.none _)
      | (with_reducible refine LeO.ite ?_ ?_)
      | (with_reducible refine LeO.bind ?_ (fun _ => ?_))
      | exact ih0 _ _ _ _
      | exact LeO.none _
      | refine LeO.ite ?_ ?_
      | refine LeO.bind ?_ (fun _ => ?_)
def bits_Len32.f (a0 : Int) : Option (Int) := if a0 ≥ 65536 then (if (a0 / 65536) ≥ 256 then (if 0 ≤ (((a0 / 65536) / 256) % 256) then (if (((a0 / 65536) / 256) % 256) < 256 then (some (wrap64 ((16 + 8) + (wrap64 (bt (⟨#[0, 1, 2, 2, 3, 3, 3, 3, 4, 4, 4, 4, 4, 4, 4, 4, 5, 5, 5, 5, 5, 5, 5, 5, 5, 5, 5, 5, 5, 5, 5, 5, 6, 6, 6, 6, 6, 6, 6, 6, 6, 6, 6, 6, 6, 6, 6, 6, 6, 6, 6, 6, 6, 6, 6, 6, 6, 6, 6, 6, 6, 6, 6, 6, 7, 7, 7, 7, 7, 7, 7, 7, 7, 7, 7, 7, 7, 7, 7, 7, 7, 7, 7, 7, 7, 7, 7, 7, 7, 7, 7, 7, 7, 7, 7, 7, 7, 7, 7, 7, 7, 7, 7, 7, 7, 7, 7, 7, 7, 7, 7, 7, 7, 7, 7, 7, 7, 7, 7, 7, 7, 7, 7, 7, 7, 7, 7, 7, 8, 8, 8, 8, 8, 8, 8, 8, 8, 8, 8, 8, 8, 8, 8, 8, 8, 8, 8, 8, 8, 8, 8, 8, 8, 8, 8, 8, 8, 8, 8, 8, 8, 8, 8, 8, 8, 8, 8, 8, 8, 8, 8, 8, 8, 8, 8, 8, 8, 8, 8, 8, 8, 8, 8, 8, 8, 8, 8, 8, 8, 8, 8, 8, 8, 8, 8, 8, 8, 8, 8, 8, 8, 8, 8, 8, 8, 8, 8, 8, 8, 8, 8, 8, 8, 8, 8, 8, 8, 8, 8, 8, 8, 8, 8, 8, 8, 8, 8, 8, 8, 8, 8, 8, 8, 8, 8, 8, 8, 8, 8, 8, 8, 8, 8, 8, 8, 8, 8, 8, 8, 8, 8, 8, 8, 8, 8, 8]⟩ : ByteArray) (((a0 / 65536) / 256) % 256)))))) else (none)) else (none)) else (if 0 ≤ ((a0 / 65536) % 256) then (if ((a0 / 65536) % 256) < 256 then (some (wrap64 (16 + (wrap64 (bt (⟨#[0, 1, 2, 2, 3, 3, 3, 3, 4, 4, 4, 4, 4, 4, 4, 4, 5, 5, 5, 5, 5, 5, 5, 5, 5, 5, 5, 5, 5, 5, 5, 5, 6, 6, 6, 6, 6, 6, 6, 6, 6, 6, 6, 6, 6, 6, 6, 6, 6, 6, 6, 6, 6, 6, 6, 6, 6, 6, 6, 6, 6, 6, 6, 6, 7, 7, 7, 7, 7, 7, 7, 7, 7, 7, 7, 7, 7, 7, 7, 7, 7, 7, 7, 7, 7, 7, 7, 7, 7, 7, 7, 7, 7, 7, 7, 7, 7, 7, 7, 7, 7, 7, 7, 7, 7, 7, 7, 7, 7, 7, 7, 7, 7, 7, 7, 7, 7, 7, 7, 7, 7, 7, 7, 7, 7, 7, 7, 7, 8, 8, 8, 8, 8, 8, 8, 8, 8, 8, 8, 8, 8, 8, 8, 8, 8, 8, 8, 8, 8, 8, 8, 8, 8, 8, 8, 8, 8, 8, 8, 8, 8, 8, 8, 8, 8, 8, 8, 8, 8, 8, 8, 8, 8, 8, 8, 8, 8, 8, 8, 8, 8, 8, 8, 8, 8, 8, 8, 8, 8, 8, 8, 8, 8, 8, 8, 8, 8, 8, 8, 8, 8, 8, 8, 8, 8, 8, 8, 8, 8, 8, 8, 8, 8, 8, 8, 8, 8, 8, 8, 8, 8, 8, 8, 8, 8, 8, 8, 8, 8, 8, 8, 8, 8, 8, 8, 8, 8, 8, 8, 8, 8, 8, 8, 8, 8, 8, 8, 8, 8, 8, 8, 8, 8, 8, 8, 8]⟩ : ByteArray) ((a0 / 65536) % 256)))))) else (none)) else (none))) else (if a0 ≥ 256 then (if 0 ≤ ((a0 / 256) % 256) then (if ((a0 / 256) % 256) < 256 then (some (wrap64 ((0 + 8) + (wrap64 (bt (⟨#[0, 1, 2, 2, 3, 3, 3, 3, 4, 4, 4, 4, 4, 4, 4, 4, 5, 5, 5, 5, 5, 5, 5, 5, 5, 5, 5, 5, 5, 5, 5, 5, 6, 6, 6, 6, 6, 6, 6, 6, 6, 6, 6, 6, 6, 6, 6, 6, 6, 6, 6, 6, 6, 6, 6, 6, 6, 6, 6, 6, 6, 6, 6, 6, 7, 7, 7, 7, 7, 7, 7, 7, 7, 7, 7, 7, 7, 7, 7, 7, 7, 7, 7, 7, 7, 7, 7, 7, 7, 7, 7, 7, 7, 7, 7, 7, 7, 7, 7, 7, 7, 7, 7, 7, 7, 7, 7, 7, 7, 7, 7, 7, 7, 7, 7, 7, 7, 7, 7, 7, 7, 7, 7, 7, 7, 7, 7, 7, 8, 8, 8, 8, 8, 8, 8, 8, 8, 8, 8, 8, 8, 8, 8, 8, 8, 8, 8, 8, 8, 8, 8, 8, 8, 8, 8, 8, 8, 8, 8, 8, 8, 8, 8, 8, 8, 8, 8, 8, 8, 8, 8, 8, 8, 8, 8, 8, 8, 8, 8, 8, 8, 8, 8, 8, 8, 8, 8, 8, 8, 8, 8, 8, 8, 8, 8, 8, 8, 8, 8, 8, 8, 8, 8, 8, 8, 8, 8, 8, 8, 8, 8, 8, 8, 8, 8, 8, 8, 8, 8, 8, 8, 8, 8, 8, 8, 8, 8, 8, 8, 8, 8, 8, 8, 8, 8, 8, 8, 8, 8, 8, 8, 8, 8, 8, 8, 8, 8, 8, 8, 8, 8, 8, 8, 8, 8, 8]⟩ : ByteArray) ((a0 / 256) % 256)))))) else (none)) else (none)) else (if 0 ≤ ((a0) % 256) then (if ((a0) % 256) < 256 then (some (wrap64 (0 + (wrap64 (bt (⟨#[0, 1, 2, 2, 3, 3, 3, 3, 4, 4, 4, 4, 4, 4, 4, 4, 5, 5, 5, 5, 5, 5, 5, 5, 5, 5, 5, 5, 5, 5, 5, 5, 6, 6, 6, 6, 6, 6, 6, 6, 6, 6, 6, 6, 6, 6, 6, 6, 6, 6, 6, 6, 6, 6, 6, 6, 6, 6, 6, 6, 6, 6, 6, 6, 7, 7, 7, 7, 7, 7, 7, 7, 7, 7, 7, 7, 7, 7, 7, 7, 7, 7, 7, 7, 7, 7, 7, 7, 7, 7, 7, 7, 7, 7, 7, 7, 7, 7, 7, 7, 7, 7, 7, 7, 7, 7, 7, 7, 7, 7, 7, 7, 7, 7, 7, 7, 7, 7, 7, 7, 7, 7, 7, 7, 7, 7, 7, 7, 8, 8, 8, 8, 8, 8, 8, 8, 8, 8, 8, 8, 8, 8, 8, 8, 8, 8, 8, 8, 8, 8, 8, 8, 8, 8, 8, 8, 8, 8, 8, 8, 8, 8, 8, 8, 8, 8, 8, 8, 8, 8, 8, 8, 8, 8, 8, 8, 8, 8, 8, 8, 8, 8, 8, 8, 8, 8, 8, 8, 8, 8, 8, 8, 8, 8, 8, 8, 8, 8, 8, 8, 8, 8, 8, 8, 8, 8, 8, 8, 8, 8, 8, 8, 8, 8, 8, 8, 8, 8, 8, 8, 8, 8, 8, 8, 8, 8, 8, 8, 8, 8, 8, 8, 8, 8, 8, 8, 8, 8, 8, 8, 8, 8, 8, 8, 8, 8, 8, 8, 8, 8, 8, 8, 8, 8, 8, 8]⟩ : ByteArray) ((a0) % 256)))))) else (none)) else (none)))
def bits_LeadingZeros32.f (a0 : Int) : Option (Int) := (bits_Len32.f a0).bind fun t252 => (some (wrap64 (32 - t252)))
def nat_shift.l0 : Nat → Int → List Int → Int → List Int → Int → Int → Option (List Int)
  | 0, _, _, _, _, _, _ => none
  | k + 1, x1, x5, x6, x13, x14, x15 => if x15 < x14 then (if 0 ≤ x15 then (if x15 < (x13.length : Int) then (if 0 ≤ x1 then (if x5.length < 35184372088832 then (nat_shift.l0 k x1 (x5 ++ [(Go.bits .or .u64 x6 (shl .u64 (IntKind.u64.wrap (rd x13 x15)) x1)) % 4294967296]) ((Go.bits .or .u64 x6 (shl .u64 (IntKind.u64.wrap (rd x13 x15)) x1)) / 4294967296) x13 x14 (wrap64 (x15 + 1))) else (none)) else (none)) else (none)) else (none)) else (if x5.length < 35184372088832 then (some (x5 ++ [(x6) % 4294967296])) else (none))
def nat_shift.f (k : Nat) (l0 : List Int) (a1 : Int) : Option (List Int) := if 0 ≤ (wrap64 ((l0.length : Int) + 1)) then (if (wrap64 ((l0.length : Int) + 1) : Int).toNat ≤ 70368744177664 then (nat_shift.l0 k a1 (([] : List Int)) 0 l0 (l0.length : Int) 0) else (none)) else (none)
theorem nat_shift.mono_l : ∀ k, (∀ y0 y1 y2 y3 y4 y5, LeO (nat_shift.l0 k y0 y1 y2 y3 y4 y5) (nat_shift.l0 (k + 1) y0 y1 y2 y3 y4 y5))
  | 0 => fun _ _ _ _ _ _ r h => by simp [nat_shift.l0] at h
  | k + 1 => by
    have ih0 := nat_shift.mono_l k
    · intro y0 y1 y2 y3 y4 y5
      unfold nat_shift.l0
      repeat' first
      | (with_reducible exact ih0 _ _ _ _ _ _)
      | (with_reducible exact LeO.refl _)
      | (with_reducible exact LeO.none _)
      | (with_reducible refine LeO.ite ?_ ?_)
      | (with_reducible refine LeO.bind ?_ (fun _ => ?_))
      | exact ih0 _ _ _ _ _ _
      | exact LeO.none _
      | refine LeO.ite ?_ ?_
      | refine LeO.bind ?_ (fun _ => ?_)
theorem nat_shift.mono : ∀ a0 a1 k, LeO (nat_shift.f k a0 a1) (nat_shift.f (k + 1) a0 a1) := by
  intro a0 a1 k
  have ih0 := nat_shift.mono_l k
  unfold nat_shift.f
  repeat' first
      | (with_reducible exact ih0 _ _ _ _ _ _)
      | (with_reducible exact LeO.refl _)
      | (with_reducible exact LeO.none _)
      | (with_reducible refine LeO.ite ?_ ?_)
      | (with_reducible refine LeO.bind ?_ (fun _ => ?_))
      | exact ih0 _ _ _ _ _ _
      | exact LeO.none _
      | refine LeO.ite ?_ ?_
      | refine LeO.bind ?_ (fun _ => ?_)
mutual
def nat_guess.l0 : Nat → List Int → Int → Int → Int → Int → Int → Option (Int)
  | 0, _, _, _, _, _, _ => none
  | k + 1, x0, x1, x2, x7, x9, x10 => if x9 ≥ 4294967296 then (nat_guess.j1 k x0 x1 x2 x7 x9 x10 true) else (if 0 ≤ (wrap64 (x7 - 2)) then (if (wrap64 (x7 - 2)) < (x0.length : Int) then (nat_guess.j1 k x0 x1 x2 x7 x9 x10 (decide ((IntKind.u64.wrap (x9 * x2)) > (Go.bits .or .u64 (IntKind.u64.wrap (x10 * 4294967296)) (IntKind.u64.wrap (rd x0 (wrap64 (x7 - 2)))))))) else (none)) else (none))
def nat_guess.j1 : Nat → List Int → Int → Int → Int → Int → Int → Bool → Option (Int)
  | 0, _, _, _, _, _, _, _ => none
  | k + 1, x0, x1, x2, x7, x9, x10, x49 => if x49 = true then (if (IntKind.u64.wrap (x10 + x1)) ≥ 4294967296 then (some (IntKind.u64.wrap (x9 - 1))) else (nat_guess.l0 k x0 x1 x2 x7 (IntKind.u64.wrap (x9 - 1)) (IntKind.u64.wrap (x10 + x1)))) else (some x9)
end
def nat_guess.f (k : Nat) (l0 : List Int) (a1 : Int) (a2 : Int) : Option (Int) := if 0 ≤ (wrap64 ((l0.length : Int) - 1)) then (if (wrap64 ((l0.length : Int) - 1)) < (l0.length : Int) then (if 0 ≤ (wrap64 ((wrap64 ((l0.length : Int) - 1)) - 1)) then (if (wrap64 ((wrap64 ((l0.length : Int) - 1)) - 1)) < (l0.length : Int) then (if a1 = 0 then (none) else (nat_guess.l0 k l0 a1 a2 (wrap64 ((l0.length : Int) - 1)) (IntKind.u64.wrap (Int.tdiv (Go.bits .or .u64 (IntKind.u64.wrap ((IntKind.u64.wrap (rd l0 (wrap64 ((l0.length : Int) - 1)))) * 4294967296)) (IntKind.u64.wrap (rd l0 (wrap64 ((wrap64 ((l0.length : Int) - 1)) - 1))))) a1)) (Int.tmod (Go.bits .or .u64 (IntKind.u64.wrap ((IntKind.u64.wrap (rd l0 (wrap64 ((l0.length : Int) - 1)))) * 4294967296)) (IntKind.u64.wrap (rd l0 (wrap64 ((wrap64 ((l0.length : Int) - 1)) - 1))))) a1))) else (none)) else (none)) else (none)) else (none)
theorem nat_guess.mono_l : ∀ k, (∀ y0 y1 y2 y3 y4 y5, LeO (nat_guess.l0 k y0 y1 y2 y3 y4 y5) (nat_guess.l0 (k + 1) y0 y1 y2 y3 y4 y5)) ∧ (∀ y0 y1 y2 y3 y4 y5 y6, LeO (nat_guess.j1 k y0 y1 y2 y3 y4 y5 y6) (nat_guess.j1 (k + 1) y0 y1 y2 y3 y4 y5 y6))
  | 0 => ⟨fun _ _ _ _ _ _ r h => by simp [nat_guess.l0] at h, fun _ _ _ _ _ _ _ r h => by simp [nat_guess.j1] at h⟩
  | k + 1 => by
    obtain ⟨ih0, ih1⟩ := nat_guess.mono_l k
    refine ⟨?_, ?_⟩
    · intro y0 y1 y2 y3 y4 y5
      unfold nat_guess.l0
      repeat' first
      | (with_reducible exact ih0 _ _ _ _ _ _)
      | (with_reducible exact ih1 _ _ _ _ _ _ _)
      | (with_reducible exact LeO.refl _)
      | (with_reducible exact LeO.none _)
      | (with_reducible refine LeO.ite ?_ ?_)
      | (with_reducible refine LeO.bind ?_ (fun _ => ?_))
      | exact ih0 _ _ _ _ _ _
      | exact ih1 _ _ _ _ _ _ _
      | exact LeO.none _
      | refine LeO.ite ?_ ?_
      | refine LeO.bind ?_ (fun _ => ?_)
    · intro y0 y1 y2 y3 y4 y5 y6
      unfold nat_guess.j1
      repeat' first
      | (with_reducible exact ih0 _ _ _ _ _ _)
      | (with_reducible exact ih1 _ _ _ _ _ _ _)
      | (with_reducible exact LeO.refl _)
      | (with_reducible exact LeO.none _)
      | (with_reducible refine LeO.ite ?_ ?_)
      | (with_reducible refine LeO.bind ?_ (fun _ => ?_))
      | exact ih0 _ _ _ _ _ _
      | exact ih1 _ _ _ _ _ _ _
      | exact LeO.none _
      | refine LeO.ite ?_ ?_
      | refine LeO.bind ?_ (fun _ => ?_)
theorem nat_guess.mono : ∀ a0 a1 a2 k, LeO (nat_guess.f k a0 a1 a2) (nat_guess.f (k + 1) a0 a1 a2) := by
  intro a0 a1 a2 k
  obtain ⟨ih0, ih1⟩ := nat_guess.mono_l k
  unfold nat_guess.f
  repeat' first
      | (with_reducible exact ih0 _ _ _ _ _ _)
      | (with_reducible exact ih1 _ _ _ _ _ _ _)
      | (with_reducible exact LeO.refl _)
      | (with_reducible exact LeO.none _)
      | (with_reducible refine LeO.ite ?_ ?_)
      | (with_reducible refine LeO.bind ?_ (fun _ => ?_))
      | exact ih0 _ _ _ _ _ _
      | exact ih1 _ _ _ _ _ _ _
      | exact LeO.none _
      | refine LeO.ite ?_ ?_
      | refine LeO.bind ?_ (fun _ => ?_)
def nat_Cmp.f (k : Nat) (l0 : List Int) (l1 : List Int) : Option (Int) := (nat_cmp.f k l0 l1).bind fun t835 => (some t835)
theorem nat_Cmp.mono : ∀ a0 a1 k, LeO (nat_Cmp.f k a0 a1) (nat_Cmp.f (k + 1) a0 a1) := by
  intro a0 a1 k
  unfold nat_Cmp.f
  repeat' first
      | (with_reducible exact nat_cmp.mono _ _ _)
      | (with_reducible exact LeO.refl _)
      | (with_reducible exact LeO.none _)
      | (with_reducible refine LeO.ite ?_ ?_)
      | (with_reducible refine LeO.bind ?_ (fun _ => ?_))
      | exact nat_cmp.mono _ _ _
      | exact LeO.none _
      | refine LeO.ite ?_ ?_
      | refine LeO.bind ?_ (fun _ => ?_)
mutual
def nat_Add.j0 : Nat → List Int → List Int → Option (List Int)
  | 0, _, _ => none
  | k + 1, x0, x1 => if 0 ≤ (wrap64 ((x0.length : Int) + 1)) then (if (wrap64 ((x0.length : Int) + 1) : Int).toNat ≤ 70368744177664 then (nat_Add.l0 k x1 (([] : List Int)) 0 x0 (x0.length : Int) 0) else (none)) else (none)
def nat_Add.l0 : Nat → List Int → List Int → Int → List Int → Int → Int → Option (List Int)
  | 0, _, _, _, _, _, _ => none
  | k + 1, x1, x5, x6, x20, x21, x22 => if x22 < x21 then (if 0 ≤ x22 then (if x22 < (x20.length : Int) then (if x22 < (x1.length : Int) then (if x5.length < 35184372088832 then (nat_Add.l0 k x1 (x5 ++ [(IntKind.u64.wrap ((IntKind.u64.wrap (x6 + (IntKind.u64.wrap (rd x20 x22)))) + (IntKind.u64.wrap (rd x1 x22)))) % 4294967296]) ((IntKind.u64.wrap ((IntKind.u64.wrap (x6 + (IntKind.u64.wrap (rd x20 x22)))) + (IntKind.u64.wrap (rd x1 x22)))) / 4294967296) x20 x21 (wrap64 (x22 + 1))) else (none)) else (if x5.length < 35184372088832 then (nat_Add.l0 k x1 (x5 ++ [(IntKind.u64.wrap (x6 + (IntKind.u64.wrap (rd x20 x22)))) % 4294967296]) ((IntKind.u64.wrap (x6 + (IntKind.u64.wrap (rd x20 x22)))) / 4294967296) x20 x21 (wrap64 (x22 + 1))) else (none))) else (none)) else (none)) else (if x5.length < 35184372088832 then ((nat_trim.f k (x5 ++ [(x6) % 4294967296])).bind fun t435 => (some t435)) else (none))
end
def nat_Add.f (k : Nat) (l0 : List Int) (l1 : List Int) : Option (List Int) := if (l0.length : Int) < (l1.length : Int) then (nat_Add.j0 k l1 l0) else (nat_Add.j0 k l0 l1)
theorem nat_Add.mono_l : ∀ k, (∀ y0 y1, LeO (nat_Add.j0 k y0 y1) (nat_Add.j0 (k + 1) y0 y1)) ∧ (∀ y0 y1 y2 y3 y4 y5, LeO (nat_Add.l0 k y0 y1 y2 y3 y4 y5) (nat_Add.l0 (k + 1) y0 y1 y2 y3 y4 y5))
  | 0 => ⟨fun _ _ r h => by simp [nat_Add.j0] at h, fun _ _ _ _ _ _ r h => by simp [nat_Add.l0] at h⟩
  | k + 1 => by
    obtain ⟨ih0, ih1⟩ := nat_Add.mono_l k
    refine ⟨?_, ?_⟩
    · intro y0 y1
      unfold nat_Add.j0
      repeat' first
      | (with_reducible exact ih0 _ _)
      | (with_reducible exact ih1 _ _ _ _ _ _)
      | (with_reducible exact nat_trim.mono _ _)
      | (with_reducible exact LeO.refl _)
      | (with_reducible exact LeO.none _)
      | (with_reducible refine LeO.ite ?_ ?_)
      | (with_reducible refine LeO.bind ?_ (fun _ => ?_))
      | exact ih0 _ _
      | exact ih1 _ _ _ _ _ _
      | exact nat_trim.mono _ _
      | exact LeO.none _
      | refine LeO.ite ?_ ?_
      | refine LeO.bind ?_ (fun _ => ?_)
    · intro y0 y1 y2 y3 y4 y5
      unfold nat_Add.l0
      repeat' first
      | (with_reducible exact ih0 _ _)
      | (with_reducible exact ih1 _ _ _ _ _ _)
      | (with_reducible exact nat_trim.mono _ _)
      | (with_reducible exact LeO.refl _)
      | (with_reducible exact LeO.none _)
      | (with_reducible refine LeO.ite ?_ ?_)
      | (with_reducible refine LeO.bind ?_ (fun _ => ?_))
      | exact ih0 _ _
      | exact ih1 _ _ _ _ _ _
      | exact nat_trim.mono _ _
      | exact LeO.none _
      | refine LeO.ite ?_ ?_
      | refine LeO.bind ?_ (fun _ => ?_)
theorem nat_Add.mono : ∀ a0 a1 k, LeO (nat_Add.f k a0 a1) (nat_Add.f (k + 1) a0 a1) := by
  intro a0 a1 k
  obtain ⟨ih0, ih1⟩ := nat_Add.mono_l k
  unfold nat_Add.f
  repeat' first
      | (with_reducible exact ih0 _ _)
      | (with_reducible exact ih1 _ _ _ _ _ _)
      | (with_reducible exact nat_trim.mono _ _)
      | (with_reducible exact LeO.refl _)
      | (with_reducible exact LeO.none _)
      | (with_reducible refine LeO.ite ?_ ?_)
      | (with_reducible refine LeO.bind ?_ (fun _ => ?_))
      | exact ih0 _ _
      | exact ih1 _ _ _ _ _ _
      | exact nat_trim.mono _ _
      | exact LeO.none _
      | refine LeO.ite ?_ ?_
      | refine LeO.bind ?_ (fun _ => ?_)
def nat_sub.l0 : Nat → List Int → List Int → Int → List Int → Int → Int → Option (List Int)
  | 0, _, _, _, _, _, _ => none
  | k + 1, x1, x5, x6, x13, x14, x15 => if x15 < x14 then (if 0 ≤ x15 then (if x15 < (x13.length : Int) then (if x15 < (x1.length : Int) then (if x5.length < 35184372088832 then (nat_sub.l0 k x1 (x5 ++ [(IntKind.u64.wrap ((IntKind.u64.wrap ((IntKind.u64.wrap (rd x13 x15)) - x6)) - (IntKind.u64.wrap (rd x1 x15)))) % 4294967296]) ((IntKind.u64.wrap ((IntKind.u64.wrap ((IntKind.u64.wrap (rd x13 x15)) - x6)) - (IntKind.u64.wrap (rd x1 x15)))) / 9223372036854775808) x13 x14 (wrap64 (x15 + 1))) else (none)) else (if x5.length < 35184372088832 then (nat_sub.l0 k x1 (x5 ++ [(IntKind.u64.wrap ((IntKind.u64.wrap (rd x13 x15)) - x6)) % 4294967296]) ((IntKind.u64.wrap ((IntKind.u64.wrap (rd x13 x15)) - x6)) / 9223372036854775808) x13 x14 (wrap64 (x15 + 1))) else (none))) else (none)) else (none)) else ((nat_trim.f k x5).bind fun t449 => (some t449))
def nat_sub.f (k : Nat) (l0 : List Int) (l1 : List Int) : Option (List Int) := if 0 ≤ (l0.length : Int) then (if ((l0.length : Int) : Int).toNat ≤ 70368744177664 then (nat_sub.l0 k l1 (([] : List Int)) 0 l0 (l0.length : Int) 0) else (none)) else (none)
theorem nat_sub.mono_l : ∀ k, (∀ y0 y1 y2 y3 y4 y5, LeO (nat_sub.l0 k y0 y1 y2 y3 y4 y5) (nat_sub.l0 (k + 1) y0 y1 y2 y3 y4 y5))
  | 0 => fun _ _ _ _ _ _ r h => by simp [nat_sub.l0] at h
  | k + 1 => by
    have ih0 := nat_sub.mono_l k
    · intro y0 y1 y2 y3 y4 y5
      unfold nat_sub.l0
      repeat' first
      | (with_reducible exact ih0 _ _ _ _ _ _)
      | (with_reducible exact nat_trim.mono _ _)
      | (with_reducible exact LeO.refl _)
      | (with_reducible exact LeO.none _)
      | (with_reducible refine LeO.ite ?_ ?_)
      | (with_reducible refine LeO.bind ?_ (fun _ => ?_))
      | exact ih0 _ _ _ _ _ _
      | exact nat_trim.mono _ _
      | exact LeO.none _
      | refine LeO.ite ?_ ?_
      | refine LeO.bind ?_ (fun _ => ?_)
theorem nat_sub.mono : ∀ a0 a1 k, LeO (nat_sub.f k a0 a1) (nat_sub.f (k + 1) a0 a1) := by
  intro a0 a1 k
  have ih0 := nat_sub.mono_l k
  unfold nat_sub.f
  repeat' first
      | (with_reducible exact ih0 _ _ _ _ _ _)
      | (with_reducible exact nat_trim.mono _ _)
      | (with_reducible exact LeO.refl _)
      | (with_reducible exact LeO.none _)
      | (with_reducible refine LeO.ite ?_ ?_)
      | (with_reducible refine LeO.bind ?_ (fun _ => ?_))
      | exact ih0 _ _ _ _ _ _
      | exact nat_trim.mono _ _
      | exact LeO.none _
      | refine LeO.ite ?_ ?_
      | refine LeO.bind ?_ (fun _ => ?_)
def nat_Sub.f (k : Nat) (l0 : List Int) (l1 : List Int) : Option (List Int × Bool) := (nat_trim.f k l1).bind fun t452 => ((nat_cmp.f k l0 t452).bind fun t455 => (if t455 < 0 then (some (([] : List Int), false)) else ((nat_sub.f k l0 t452).bind fun t456 => (some (t456, true)))))
theorem nat_Sub.mono : ∀ a0 a1 k, LeO (nat_Sub.f k a0 a1) (nat_Sub.f (k + 1) a0 a1) := by
  intro a0 a1 k
  unfold nat_Sub.f
  repeat' first
      | (with_reducible exact nat_cmp.mono _ _ _)
      | (with_reducible exact nat_sub.mono _ _ _)
      | (with_reducible exact nat_trim.mono _ _)
      | (with_reducible exact LeO.refl _)
      | (with_reducible exact LeO.none _)
      | (with_reducible refine LeO.ite ?_ ?_)
      | (with_reducible refine LeO.bind ?_ (fun _ => ?_))
      | exact nat_cmp.mono _ _ _
      | exact nat_sub.mono _ _ _
      | exact nat_trim.mono _ _
      | exact LeO.none _
      | refine LeO.ite ?_ ?_
      | refine LeO.bind ?_ (fun _ => ?_)
def nat_Of.f (k : Nat) (a0 : Int) : Option (List Int) := (nat_trim.f k (([(a0) % 4294967296, (a0 / 4294967296) % 4294967296] : List Int))).bind fun t969 => ((api_Nat_uint32.f t969).bind fun t972 => (some t972))
theorem nat_Of.mono : ∀ a0 k, LeO (nat_Of.f k a0) (nat_Of.f (k + 1) a0) := by
  intro a0 k
  unfold nat_Of.f
  repeat' first
      | (with_reducible exact nat_trim.mono _ _)
      | (with_reducible exact LeO.refl _)
      | (with_reducible exact LeO.none _)
      | (with_reducible refine LeO.ite ?_ ?_)
      | (with_reducible refine LeO.bind ?_ (fun _ => ?_))
      | exact nat_trim.mono _ _
      | exact LeO.none _
      | refine LeO.ite ?_ ?_
      | refine LeO.bind ?_ (fun _ => ?_)
mutual
def nat_Mul.l0 : Nat → List Int → List Int → List Int → Int → Int → Option (List Int)
  | 0, _, _, _, _, _ => none
  | k + 1, x1, x5, x17, x18, x19 => if x19 < x18 then (if 0 ≤ x19 then (if x19 < (x17.length : Int) then (nat_Mul.l1 k x1 x5 x19 (rd x17 x19) 0 x17 x18 x19 x1 (x1.length : Int) 0) else (none)) else (none)) else ((nat_trim.f k x5).bind fun t1001 => (some t1001))
def nat_Mul.l1 : Nat → List Int → List Int → Int → Int → Int → List Int → Int → Int → List Int → Int → Int → Option (List Int)
  | 0, _, _, _, _, _, _, _, _, _, _, _ => none
  | k + 1, x1, x5, x6, x7, x8, x17, x18, x19, x24, x25, x26 => if x26 < x25 then (if 0 ≤ x26 then (if x26 < (x24.length : Int) then (if 0 ≤ (wrap64 (x6 + x26)) then (if (wrap64 (x6 + x26)) < (x5.length : Int) then (nat_Mul.l1 k x1 (x5.set ((wrap64 (x6 + x26)) : Int).toNat ((IntKind.u64.wrap (x8 + (IntKind.u64.wrap ((IntKind.u64.wrap (rd x5 (wrap64 (x6 + x26)))) + (IntKind.u64.wrap ((IntKind.u64.wrap (x7)) * (IntKind.u64.wrap (rd x24 x26)))))))) % 4294967296)) x6 x7 ((IntKind.u64.wrap (x8 + (IntKind.u64.wrap ((IntKind.u64.wrap (rd x5 (wrap64 (x6 + x26)))) + (IntKind.u64.wrap ((IntKind.u64.wrap (x7)) * (IntKind.u64.wrap (rd x24 x26)))))))) / 4294967296) x17 x18 x19 x24 x25 (wrap64 (x26 + 1))) else (none)) else (none)) else (none)) else (none)) else (if 0 ≤ (wrap64 (x6 + (x1.length : Int))) then (if (wrap64 (x6 + (x1.length : Int))) < (x5.length : Int) then (nat_Mul.l0 k x1 (x5.set ((wrap64 (x6 + (x1.length : Int))) : Int).toNat ((x8) % 4294967296)) x17 x18 (wrap64 (x19 + 1))) else (none)) else (none))
end
def nat_Mul.f (k : Nat) (l0 : List Int) (l1 : List Int) : Option (List Int) := if 0 ≤ (wrap64 ((l0.length : Int) + (l1.length : Int))) then (if (wrap64 ((l0.length : Int) + (l1.length : Int)) : Int).toNat ≤ 70368744177664 then (nat_Mul.l0 k l1 (List.replicate (wrap64 ((l0.length : Int) + (l1.length : Int)) : Int).toNat 0) l0 (l0.length : Int) 0) else (none)) else (none)
theorem nat_Mul.mono_l : ∀ k, (∀ y0 y1 y2 y3 y4, LeO (nat_Mul.l0 k y0 y1 y2 y3 y4) (nat_Mul.l0 (k + 1) y0 y1 y2 y3 y4)) ∧ (∀ y0 y1 y2 y3 y4 y5 y6 y7 y8 y9 y10, LeO (nat_Mul.l1 k y0 y1 y2 y3 y4 y5 y6 y7 y8 y9 y10) (nat_Mul.l1 (k + 1) y0 y1 y2 y3 y4 y5 y6 y7 y8 y9 y10))
  | 0 => ⟨fun _ _ _ _ _ r h => by simp [nat_Mul.l0] at h, fun _ _ _ _ _ _ _ _ _ _ _ r h => by simp [nat_Mul.l1] at h⟩
  | k + 1 => by
    obtain ⟨ih0, ih1⟩ := nat_Mul.mono_l k
    refine ⟨?_, ?_⟩
    · intro y0 y1 y2 y3 y4
      unfold nat_Mul.l0
      repeat' first
      | (with_reducible exact ih0 _ _ _ _ _)
      | (with_reducible exact ih1 _ _ _ _ _ _ _ _ _ _ _)
      | (with_reducible exact nat_trim.mono _ _)
      | (with_reducible exact LeO.refl _)
      | (with_reducible exact LeO.none _)
      | (with_reducible refine LeO.ite ?_ ?_)
      | (with_reducible refine LeO.bind ?_ (fun _ => ?_))
      | exact ih0 _ _ _ _ _
      | exact ih1 _ _ _ _ _ _ _ _ _ _ _
      | exact nat_trim.mono _ _
      | exact LeO.none _
      | refine LeO.ite ?_ ?_
      | refine LeO.bind ?_ (fun _ => ?_)
    · intro y0 y1 y2 y3 y4 y5 y6 y7 y8 y9 y10
      unfold nat_Mul.l1
      repeat' first
      | (with_reducible exact ih0 _ _ _ _ _)
      | (with_reducible exact ih1 _ _ _ _ _ _ _ _ _ _ _)
      | (with_reducible exact nat_trim.mono _ _)
      | (with_reducible exact LeO.refl _)
      | (with_reducible exact LeO.none _)
      | (with_reducible refine LeO.ite ?_ ?_)
      | (with_reducible refine LeO.bind ?_ (fun _ => ?_))
      | exact ih0 _ _ _ _ _
      | exact ih1 _ _ _ _ _ _ _ _ _ _ _
      | exact nat_trim.mono _ _
      | exact LeO.none _
      | refine LeO.ite ?_ ?_
      | refine LeO.bind ?_ (fun _ => ?_)
theorem nat_Mul.mono : ∀ a0 a1 k, LeO (nat_Mul.f k a0 a1) (nat_Mul.f (k + 1) a0 a1) := by
  intro a0 a1 k
  obtain ⟨ih0, ih1⟩ := nat_Mul.mono_l k
  unfold nat_Mul.f
  repeat' first
      | (with_reducible exact ih0 _ _ _ _ _)
      | (with_reducible exact ih1 _ _ _ _ _ _ _ _ _ _ _)
      | (with_reducible exact nat_trim.mono _ _)
      | (with_reducible exact LeO.refl _)
      | (with_reducible exact LeO.none _)
      | (with_reducible refine LeO.ite ?_ ?_)
      | (with_reducible refine LeO.bind ?_ (fun _ => ?_))
      | exact ih0 _ _ _ _ _
      | exact ih1 _ _ _ _ _ _ _ _ _ _ _
      | exact nat_trim.mono _ _
      | exact LeO.none _
      | refine LeO.ite ?_ ?_
      | refine LeO.bind ?_ (fun _ => ?_)
def nat_off.l0 : Nat → List Int → List Int → Int → Int → Int → Int → Int → Option (Bool × List Int)
  | 0, _, _, _, _, _, _, _ => none
  | k + 1, x0, x1, x2, x7, x8, x12, x13 => if x13 < x12 then (if x13 < (x1.length : Int) then (if 0 ≤ x13 then (if x13 < (x0.length : Int) then (nat_off.l0 k (x0.set (x13 : Int).toNat ((IntKind.u64.wrap ((IntKind.u64.wrap ((IntKind.u64.wrap (rd x0 x13)) - ((IntKind.u64.wrap (x7 + (IntKind.u64.wrap (x2 * (IntKind.u64.wrap (rd x1 x13)))))) % 4294967296))) - x8)) % 4294967296)) x1 x2 ((IntKind.u64.wrap (x7 + (IntKind.u64.wrap (x2 * (IntKind.u64.wrap (rd x1 x13)))))) / 4294967296) ((IntKind.u64.wrap ((IntKind.u64.wrap ((IntKind.u64.wrap (rd x0 x13)) - ((IntKind.u64.wrap (x7 + (IntKind.u64.wrap (x2 * (IntKind.u64.wrap (rd x1 x13)))))) % 4294967296))) - x8)) / 9223372036854775808) x12 (wrap64 (x13 + 1))) else (none)) else (none)) else (if 0 ≤ x13 then (if x13 < (x0.length : Int) then (nat_off.l0 k (x0.set (x13 : Int).toNat ((IntKind.u64.wrap ((IntKind.u64.wrap ((IntKind.u64.wrap (rd x0 x13)) - ((x7) % 4294967296))) - x8)) % 4294967296)) x1 x2 (x7 / 4294967296) ((IntKind.u64.wrap ((IntKind.u64.wrap ((IntKind.u64.wrap (rd x0 x13)) - ((x7) % 4294967296))) - x8)) / 9223372036854775808) x12 (wrap64 (x13 + 1))) else (none)) else (none))) else (some ((x8 != 0), x0))
def nat_off.f (k : Nat) (l0 : List Int) (l1 : List Int) (a2 : Int) : Option (Bool × List Int) := nat_off.l0 k l0 l1 a2 0 0 (l0.length : Int) 0
theorem nat_off.mono_l : ∀ k, (∀ y0 y1 y2 y3 y4 y5 y6, LeO (nat_off.l0 k y0 y1 y2 y3 y4 y5 y6) (nat_off.l0 (k + 1) y0 y1 y2 y3 y4 y5 y6))
  | 0 => fun _ _ _ _ _ _ _ r h => by simp [nat_off.l0] at h
  | k + 1 => by
    have ih0 := nat_off.mono_l k
    · intro y0 y1 y2 y3 y4 y5 y6
      unfold nat_off.l0
      repeat' first
      | (with_reducible exact ih0 _ _ _ _ _ _ _)
      | (with_reducible exact LeO.refl _)
      | (with_reducible exact LeO.none _)
      | (with_reducible refine LeO.ite ?_ ?_)
      | (with_reducible refine LeO.bind ?_ (fun _ => ?_))
      | exact ih0 _ _ _ _ _ _ _
      | exact LeO.none _
      | refine LeO.ite ?_ ?_
      | refine LeO.bind ?_ (fun _ => ?_)
theorem nat_off.mono : ∀ a0 a1 a2 k, LeO (nat_off.f k a0 a1 a2) (nat_off.f (k + 1) a0 a1 a2) := by
  intro a0 a1 a2 k
  have ih0 := nat_off.mono_l k
  unfold nat_off.f
  repeat' first
      | (with_reducible exact ih0 _ _ _ _ _ _ _)
      | (with_reducible exact LeO.refl _)
      | (with_reducible exact LeO.none _)
      | (with_reducible refine LeO.ite ?_ ?_)
      | (with_reducible refine LeO.bind ?_ (fun _ => ?_))
      | exact ih0 _ _ _ _ _ _ _
      | exact LeO.none _
      | refine LeO.ite ?_ ?_
      | refine LeO.bind ?_ (fun _ => ?_)
def nat_back.l0 : Nat → List Int → List Int → Int → Int → Int → Option (List Int)
  | 0, _, _, _, _, _ => none
  | k + 1, x0, x1, x4, x7, x8 => if x8 < x7 then (if 0 ≤ x8 then (if x8 < (x0.length : Int) then (if x8 < (x1.length : Int) then (nat_back.l0 k (x0.set (x8 : Int).toNat ((IntKind.u64.wrap ((IntKind.u64.wrap (x4 + (IntKind.u64.wrap (rd x0 x8)))) + (IntKind.u64.wrap (rd x1 x8)))) % 4294967296)) x1 ((IntKind.u64.wrap ((IntKind.u64.wrap (x4 + (IntKind.u64.wrap (rd x0 x8)))) + (IntKind.u64.wrap (rd x1 x8)))) / 4294967296) x7 (wrap64 (x8 + 1))) else (nat_back.l0 k (x0.set (x8 : Int).toNat ((IntKind.u64.wrap (x4 + (IntKind.u64.wrap (rd x0 x8)))) % 4294967296)) x1 ((IntKind.u64.wrap (x4 + (IntKind.u64.wrap (rd x0 x8)))) / 4294967296) x7 (wrap64 (x8 + 1)))) else (none)) else (none)) else (some x0)
def nat_back.f (k : Nat) (l0 : List Int) (l1 : List Int) : Option (List Int) := nat_back.l0 k l0 l1 0 (l0.length : Int) 0
theorem nat_back.mono_l : ∀ k, (∀ y0 y1 y2 y3 y4, LeO (nat_back.l0 k y0 y1 y2 y3 y4) (nat_back.l0 (k + 1) y0 y1 y2 y3 y4))
  | 0 => fun _ _ _ _ _ r h => by simp [nat_back.l0] at h
  | k + 1 => by
    have ih0 := nat_back.mono_l k
    · intro y0 y1 y2 y3 y4
      unfold nat_back.l0
      repeat' first
      | (with_reducible exact ih0 _ _ _ _ _)
      | (with_reducible exact LeO.refl _)
      | (with_reducible exact LeO.none _)
      | (with_reducible refine LeO.ite ?_ ?_)
      | (with_reducible refine LeO.bind ?_ (fun _ => ?_))
      | exact ih0 _ _ _ _ _
      | exact LeO.none _
      | refine LeO.ite ?_ ?_
      | refine LeO.bind ?_ (fun _ => ?_)
theorem nat_back.mono : ∀ a0 a1 k, LeO (nat_back.f k a0 a1) (nat_back.f (k + 1) a0 a1) := by
  intro a0 a1 k
  have ih0 := nat_back.mono_l k
  unfold nat_back.f
  repeat' first
      | (with_reducible exact ih0 _ _ _ _ _)
      | (with_reducible exact LeO.refl _)
      | (with_reducible exact LeO.none _)
      | (with_reducible refine LeO.ite ?_ ?_)
      | (with_reducible refine LeO.bind ?_ (fun _ => ?_))
      | exact ih0 _ _ _ _ _
      | exact LeO.none _
      | refine LeO.ite ?_ ?_
      | refine LeO.bind ?_ (fun _ => ?_)
def nat_offX.f (k : Nat) (l0 : List Int) (lo_ hi_ : Int) (l1 : List Int) (a2 : Int) : Option (Bool × List Int) := if 0 ≤ lo_ ∧ lo_ < hi_ ∧ hi_ ≤ (l0.length : Int) then (nat_off.f k ((l0.take hi_.toNat).drop lo_.toNat) l1 a2).bind fun b_ => (if (b_.2).length = hi_.toNat - lo_.toNat then some (b_.1, l0.take lo_.toNat ++ b_.2 ++ l0.drop hi_.toNat) else none) else none
theorem nat_offX.mono : ∀ a0 a1 a2 a3 a4 k, LeO (nat_offX.f k a0 a1 a2 a3 a4) (nat_offX.f (k + 1) a0 a1 a2 a3 a4) := by
  intro a0 a1 a2 a3 a4 k
  unfold nat_offX.f
  exact LeO.ite (LeO.bind (nat_off.mono _ _ _ k) (fun _ => LeO.refl _)) (LeO.refl _)
def nat_backX.f (k : Nat) (l0 : List Int) (lo_ hi_ : Int) (l1 : List Int) : Option (List Int) := if 0 ≤ lo_ ∧ lo_ < hi_ ∧ hi_ ≤ (l0.length : Int) then (nat_back.f k ((l0.take hi_.toNat).drop lo_.toNat) l1).bind fun b_ => (if (b_).length = hi_.toNat - lo_.toNat then some (l0.take lo_.toNat ++ b_ ++ l0.drop hi_.toNat) else none) else none
theorem nat_backX.mono : ∀ a0 a1 a2 a3 k, LeO (nat_backX.f k a0 a1 a2 a3) (nat_backX.f (k + 1) a0 a1 a2 a3) := by
  intro a0 a1 a2 a3 k
  unfold nat_backX.f
  exact LeO.ite (LeO.bind (nat_back.mono _ _ k) (fun _ => LeO.refl _)) (LeO.refl _)
mutual
def nat_long.l0 : Nat → Int → List Int → List Int → Int → List Int → Int → Int → Int → Option (List Int × List Int)
  | 0, _, _, _, _, _, _, _, _ => none
  | k + 1, x6, x7, x8, x9, x10, x11, x12, x13 => if x13 ≥ 0 then (if 0 ≤ x13 then (if x13 ≤ (wrap64 ((wrap64 (x13 + x9)) + 1)) then (if (wrap64 ((wrap64 (x13 + x9)) + 1)) ≤ (x7.length : Int) then ((nat_guess.f k ((x7.take ((wrap64 ((wrap64 (x13 + x9)) + 1)) : Int).toNat).drop (x13 : Int).toNat) x11 x12).bind fun t295 => ((nat_offX.f k x7 x13 (wrap64 ((wrap64 (x13 + x9)) + 1)) x8 t295).bind fun bt296 => (if bt296.1 = true then ((nat_backX.f k bt296.2 x13 (wrap64 ((wrap64 (x13 + x9)) + 1)) x8).bind fun t298 => (if x13 < (x10.length : Int) then (nat_long.l0 k x6 t298 x8 x9 (x10.set (x13 : Int).toNat ((IntKind.u64.wrap (t295 - 1)) % 4294967296)) x11 x12 (wrap64 (x13 - 1))) else (none))) else (if x13 < (x10.length : Int) then (nat_long.l0 k x6 bt296.2 x8 x9 (x10.set (x13 : Int).toNat ((t295) % 4294967296)) x11 x12 (wrap64 (x13 - 1))) else (none))))) else (none)) else (none)) else (none)) else ((nat_trim.f k x7).bind fun t301 => (nat_long.l1 k x6 x10 t301 0 (wrap64 ((t301.length : Int) - 1))))
def nat_long.l1 : Nat → Int → List Int → List Int → Int → Int → Option (List Int × List Int)
  | 0, _, _, _, _, _ => none
  | k + 1, x6, x10, x16, x17, x18 => if x18 ≥ 0 then (if 0 ≤ x18 then (if x18 < (x16.length : Int) then (if 0 ≤ x6 then (nat_long.l1 k x6 x10 (x16.set (x18 : Int).toNat ((shr .u64 (Go.bits .or .u64 (IntKind.u64.wrap (x17 * 4294967296)) (IntKind.u64.wrap (rd x16 x18))) x6) % 4294967296)) (Go.bits .or .u64 (IntKind.u64.wrap (x17 * 4294967296)) (IntKind.u64.wrap (rd x16 x18))) (wrap64 (x18 - 1))) else (none)) else (none)) else (none)) else ((nat_trim.f k x10).bind fun t306 => ((nat_trim.f k x16).bind fun t309 => (some (t306, t309))))
end
def nat_long.f (k : Nat) (l0 : List Int) (l1 : List Int) : Option (List Int × List Int) := if 0 ≤ (wrap64 ((l1.length : Int) - 1)) then (if (wrap64 ((l1.length : Int) - 1)) < (l1.length : Int) then ((bits_LeadingZeros32.f (rd l1 (wrap64 ((l1.length : Int) - 1)))).bind fun t276 => ((nat_shift.f k l0 t276).bind fun t277 => ((nat_shift.f k l1 t276).bind fun t280 => ((nat_trim.f k t280).bind fun t283 => (if 0 ≤ (wrap64 ((t277.length : Int) - (t283.length : Int))) then (if (wrap64 ((t277.length : Int) - (t283.length : Int)) : Int).toNat ≤ 70368744177664 then ((some (List.replicate (wrap64 ((t277.length : Int) - (t283.length : Int)) : Int).toNat 0 : List Int)).bind fun y286 => (if 0 ≤ (wrap64 ((t283.length : Int) - 1)) then (if (wrap64 ((t283.length : Int) - 1)) < (t283.length : Int) then (if 0 ≤ (wrap64 ((t283.length : Int) - 2)) then (if (wrap64 ((t283.length : Int) - 2)) < (t283.length : Int) then (nat_long.l0 k t276 t277 t283 (t283.length : Int) y286 (IntKind.u64.wrap (rd t283 (wrap64 ((t283.length : Int) - 1)))) (IntKind.u64.wrap (rd t283 (wrap64 ((t283.length : Int) - 2)))) (wrap64 ((y286.length : Int) - 1))) else (none)) else (none)) else (none)) else (none))) else (none)) else (none)))))) else (none)) else (none)
theorem nat_long.mono_l : ∀ k, (∀ y0 y1 y2 y3 y4 y5 y6 y7, LeO (nat_long.l0 k y0 y1 y2 y3 y4 y5 y6 y7) (nat_long.l0 (k + 1) y0 y1 y2 y3 y4 y5 y6 y7)) ∧ (∀ y0 y1 y2 y3 y4, LeO (nat_long.l1 k y0 y1 y2 y3 y4) (nat_long.l1 (k + 1) y0 y1 y2 y3 y4))
  | 0 => ⟨fun _ _ _ _ _ _ _ _ r h => by simp [nat_long.l0] at h, fun _ _ _ _ _ r h => by simp [nat_long.l1] at h⟩
  | k + 1 => by
    obtain ⟨ih0, ih1⟩ := nat_long.mono_l k
    refine ⟨?_, ?_⟩
    · intro y0 y1 y2 y3 y4 y5 y6 y7
      unfold nat_long.l0
      repeat' first
      | (with_reducible exact ih0 _ _ _ _ _ _ _ _)
      | (with_reducible exact ih1 _ _ _ _ _)
      | (with_reducible exact nat_backX.mono _ _ _ _ _)
      | (with_reducible exact nat_guess.mono _ _ _ _)
      | (with_reducible exact nat_offX.mono _ _ _ _ _ _)
      | (with_reducible exact nat_shift.mono _ _ _)
      | (with_reducible exact nat_trim.mono _ _)
      | (with_reducible exact LeO.refl _)
      | (with_reducible exact LeO.none _)
      | (with_reducible refine LeO.ite ?_ ?_)
      | (with_reducible refine LeO.bind ?_ (fun _ => ?_))
      | exact ih0 _ _ _ _ _ _ _ _
      | exact ih1 _ _ _ _ _
      | exact nat_backX.mono _ _ _ _ _
      | exact nat_guess.mono _ _ _ _
      | exact nat_offX.mono _ _ _ _ _ _
      | exact nat_shift.mono _ _ _
      | exact nat_trim.mono _ _
      | exact LeO.none _
      | refine LeO.ite ?_ ?_
      | refine LeO.bind ?_ (fun _ => ?_)
    · intro y0 y1 y2 y3 y4
      unfold nat_long.l1
      repeat' first
      | (with_reducible exact ih0 _ _ _ _ _ _ _ _)
      | (with_reducible exact ih1 _ _ _ _ _)
      | (with_reducible exact nat_backX.mono _ _ _ _ _)
      | (with_reducible exact nat_guess.mono _ _ _ _)
      | (with_reducible exact nat_offX.mono _ _ _ _ _ _)
      | (with_reducible exact nat_shift.mono _ _ _)
      | (with_reducible exact nat_trim.mono _ _)
      | (with_reducible exact LeO.refl _)
      | (with_reducible exact LeO.none _)
      | (with_reducible refine LeO.ite ?_ ?_)
      | (with_reducible refine LeO.bind ?_ (fun _ => ?_))
      | exact ih0 _ _ _ _ _ _ _ _
      | exact ih1 _ _ _ _ _
      | exact nat_backX.mono _ _ _ _ _
      | exact nat_guess.mono _ _ _ _
      | exact nat_offX.mono _ _ _ _ _ _
      | exact nat_shift.mono _ _ _
      | exact nat_trim.mono _ _
      | exact LeO.none _
      | refine LeO.ite ?_ ?_
      | refine LeO.bind ?_ (fun _ => ?_)
theorem nat_long.mono : ∀ a0 a1 k, LeO (nat_long.f k a0 a1) (nat_long.f (k + 1) a0 a1) := by
  intro a0 a1 k
  obtain ⟨ih0, ih1⟩ := nat_long.mono_l k
  unfold nat_long.f
  repeat' first
      | (with_reducible exact ih0 _ _ _ _ _ _ _ _)
      | (with_reducible exact ih1 _ _ _ _ _)
      | (with_reducible exact nat_backX.mono _ _ _ _ _)
      | (with_reducible exact nat_guess.mono _ _ _ _)
      | (with_reducible exact nat_offX.mono _ _ _ _ _ _)
      | (with_reducible exact nat_shift.mono _ _ _)
      | (with_reducible exact nat_trim.mono _ _)
      | (with_reducible exact LeO.refl _)
      | (with_reducible exact LeO.none _)
      | (with_reducible refine LeO.ite ?_ ?_)
      | (with_reducible refine LeO.bind ?_ (fun _ => ?_))
      | exact ih0 _ _ _ _ _ _ _ _
      | exact ih1 _ _ _ _ _
      | exact nat_backX.mono _ _ _ _ _
      | exact nat_guess.mono _ _ _ _
      | exact nat_offX.mono _ _ _ _ _ _
      | exact nat_shift.mono _ _ _
      | exact nat_trim.mono _ _
      | exact LeO.none _
      | refine LeO.ite ?_ ?_
      | refine LeO.bind ?_ (fun _ => ?_)
def nat_divmod.f (k : Nat) (l0 : List Int) (l1 : List Int) : Option (List Int × List Int) := (nat_cmp.f k l0 l1).bind fun t312 => (if t312 < 0 then ((api_Nat_uint32.f l0).bind fun t313 => (some (([] : List Int), t313))) else (if (l1.length : Int) = 1 then ((api_Nat_uint32.f l0).bind fun t316 => (if 0 < (l1.length : Int) then ((nat_short.f k t316 (rd l1 0)).bind fun bt320 => ((nat_trim.f k bt320.2).bind fun t322 => ((nat_trim.f k (([bt320.1] : List Int))).bind fun t328 => (some (t322, t328))))) else (none))) else ((nat_long.f k l0 l1).bind fun bt331 => (some (bt331.1, bt331.2)))))
theorem nat_divmod.mono : ∀ a0 a1 k, LeO (nat_divmod.f k a0 a1) (nat_divmod.f (k + 1) a0 a1) := by
  intro a0 a1 k
  unfold nat_divmod.f
  repeat' first
      | (with_reducible exact nat_cmp.mono _ _ _)
      | (with_reducible exact nat_long.mono _ _ _)
      | (with_reducible exact nat_short.mono _ _ _)
      | (with_reducible exact nat_trim.mono _ _)
      | (with_reducible exact LeO.refl _)
      | (with_reducible exact LeO.none _)
      | (with_reducible refine LeO.ite ?_ ?_)
      | (with_reducible refine LeO.bind ?_ (fun _ => ?_))
      | exact nat_cmp.mono _ _ _
      | exact nat_long.mono _ _ _
      | exact nat_short.mono _ _ _
      | exact nat_trim.mono _ _
      | exact LeO.none _
      | refine LeO.ite ?_ ?_
      | refine LeO.bind ?_ (fun _ => ?_)
def nat_DivMod.f (k : Nat) (l0 : List Int) (l1 : List Int) : Option (List Int × List Int × Int) := (nat_trim.f k l0).bind fun t337 => ((nat_trim.f k l1).bind fun t340 => (if (t340.length : Int) = 0 then (some (([] : List Int), ([] : List Int), 3)) else ((nat_divmod.f k t337 t340).bind fun bt343 => (some (bt343.1, bt343.2, 0)))))
theorem nat_DivMod.mono : ∀ a0 a1 k, LeO (nat_DivMod.f k a0 a1) (nat_DivMod.f (k + 1) a0 a1) := by
  intro a0 a1 k
  unfold nat_DivMod.f
  repeat' first
      | (with_reducible exact nat_divmod.mono _ _ _)
      | (with_reducible exact nat_trim.mono _ _)
      | (with_reducible exact LeO.refl _)
      | (with_reducible exact LeO.none _)
      | (with_reducible refine LeO.ite ?_ ?_)
      | (with_reducible refine LeO.bind ?_ (fun _ => ?_))
      | exact nat_divmod.mono _ _ _
      | exact nat_trim.mono _ _
      | exact LeO.none _
      | refine LeO.ite ?_ ?_
      | refine LeO.bind ?_ (fun _ => ?_)
def slices_Reverse_byte_byte.l0 : Nat → List Int → Int → Int → Option (List Int)
  | 0, _, _, _ => none
  | k + 1, x0, x2, x3 => if x2 < x3 then (if 0 ≤ x3 then (if x3 < (x0.length : Int) then (if 0 ≤ x2 then (if x2 < (x0.length : Int) then (slices_Reverse_byte_byte.l0 k ((x0.set (x2 : Int).toNat (rd x0 x3)).set (x3 : Int).toNat (rd x0 x2)) (wrap64 (x2 + 1)) (wrap64 (x3 - 1))) else (none)) else (none)) else (none)) else (none)) else (some x0)
def slices_Reverse_byte_byte.f (k : Nat) (l0 : List Int) : Option (List Int) := slices_Reverse_byte_byte.l0 k l0 0 (wrap64 ((l0.length : Int) - 1))
theorem slices_Reverse_byte_byte.mono_l : ∀ k, (∀ y0 y1 y2, LeO (slices_Reverse_byte_byte.l0 k y0 y1 y2) (slices_Reverse_byte_byte.l0 (k + 1) y0 y1 y2))
  | 0 => fun _ _ _ r h => by simp [slices_Reverse_byte_byte.l0] at h
  | k + 1 => by
    have ih0 := slices_Reverse_byte_byte.mono_l k
    · intro y0 y1 y2
      unfold slices_Reverse_byte_byte.l0
      repeat' first
      | (with_reducible exact ih0 _ _ _)
      | (with_reducible exact LeO.refl _)
      | (with_reducible exact LeO.none _)
      | (with_reducible refine LeO.ite ?_ ?_)
      | (with_reducible refine LeO.bind ?_ (fun _ => ?_))
      | exact ih0 _ _ _
      | exact LeO.none _
      | refine LeO.ite ?_ ?_
      | refine LeO.bind ?_ (fun _ => ?_)
theorem slices_Reverse_byte_byte.mono : ∀ a0 k, LeO (slices_Reverse_byte_byte.f k a0) (slices_Reverse_byte_byte.f (k + 1) a0) := by
  intro a0 k
  have ih0 := slices_Reverse_byte_byte.mono_l k
  unfold slices_Reverse_byte_byte.f
  repeat' first
      | (with_reducible exact ih0 _ _ _)
      | (with_reducible exact LeO.refl _)
      | (with_reducible exact LeO.none _)
      | (with_reducible refine LeO.ite ?_ ?_)
      | (with_reducible refine LeO.bind ?_ (fun _ => ?_))
      | exact ih0 _ _ _
      | exact LeO.none _
      | refine LeO.ite ?_ ?_
      | refine LeO.bind ?_ (fun _ => ?_)
mutual
def nat_show.l0 : Nat → List Int → List Int → Option (ByteArray)
  | 0, _, _ => none
  | k + 1, x0, x3 => if (x0.length : Int) > 0 then ((nat_short.f k x0 1000000000).bind fun bt846 => ((nat_trim.f k bt846.2).bind fun t848 => (nat_show.l1 k t848 x3 bt846.1 0))) else (nat_show.l2 k x3)
def nat_show.l1 : Nat → List Int → List Int → Int → Int → Option (ByteArray)
  | 0, _, _, _, _ => none
  | k + 1, x0, x3, x4, x15 => if x15 < 9 then (if x3.length < 140737488355328 then (nat_show.l1 k x0 (x3 ++ [(48 + (Int.tmod x4 10)) % 256]) ((Int.tdiv x4 10) % 4294967296) (wrap64 (x15 + 1))) else (none)) else (nat_show.l0 k x0 x3)
def nat_show.l2 : Nat → List Int → Option (ByteArray)
  | 0, _ => none
  | k + 1, x3 => if (x3.length : Int) > 0 then (if 0 ≤ (wrap64 ((x3.length : Int) - 1)) then (if (wrap64 ((x3.length : Int) - 1)) < (x3.length : Int) then (if (rd x3 (wrap64 ((x3.length : Int) - 1))) = 48 then (if (wrap64 ((x3.length : Int) - 1)) ≤ (x3.length : Int) then (nat_show.l2 k (x3.take ((wrap64 ((x3.length : Int) - 1)) : Int).toNat)) else (none)) else (if (x3.length : Int) = 0 then (some (⟨#[48]⟩ : ByteArray)) else ((slices_Reverse_byte_byte.f k x3).bind fun t858 => (some (strOfNums t858))))) else (none)) else (none)) else (if (x3.length : Int) = 0 then (some (⟨#[48]⟩ : ByteArray)) else ((slices_Reverse_byte_byte.f k x3).bind fun t859 => (some (strOfNums t859))))
end
def nat_show.f (k : Nat) (l0 : List Int) : Option (ByteArray) := (nat_trim.f k l0).bind fun t840 => ((api_Nat_uint32.f t840).bind fun t843 => (nat_show.l0 k t843 ([] : List Int)))
theorem nat_show.mono_l : ∀ k, (∀ y0 y1, LeO (nat_show.l0 k y0 y1) (nat_show.l0 (k + 1) y0 y1)) ∧ (∀ y0 y1 y2 y3, LeO (nat_show.l1 k y0 y1 y2 y3) (nat_show.l1 (k + 1) y0 y1 y2 y3)) ∧ (∀ y0, LeO (nat_show.l2 k y0) (nat_show.l2 (k + 1) y0))
  | 0 => ⟨fun _ _ r h => by simp [nat_show.l0] at h, fun _ _ _ _ r h => by simp [nat_show.l1] at h, fun _ r h => by simp [nat_show.l2] at h⟩
  | k + 1 => by
    obtain ⟨ih0, ih1, ih2⟩ := nat_show.mono_l k
    refine ⟨?_, ?_, ?_⟩
    · intro y0 y1
      unfold nat_show.l0
      repeat' first
      | (with_reducible exact ih0 _ _)
      | (with_reducible exact ih1 _ _ _ _)
      | (with_reducible exact ih2 _)
      | (with_reducible exact nat_short.mono _ _ _)
      | (with_reducible exact nat_trim.mono _ _)
      | (with_reducible exact nat_trim.mono _ _)
      | (with_reducible exact slices_Reverse_byte_byte.mono _ _)
      | (with_reducible exact LeO.refl _)
      | (with_reducible exact LeO.none _)
      | (with_reducible refine LeO.ite ?_ ?_)
      | (with_reducible refine LeO.bind ?_ (fun _ => ?_))
      | exact ih0 _ _
      | exact ih1 _ _ _ _
      | exact ih2 _
      | exact nat_short.mono _ _ _
      | exact nat_trim.mono _ _
      | exact nat_trim.mono _ _
      | exact slices_Reverse_byte_byte.mono _ _
      | exact LeO.none _
      | refine LeO.ite ?_ ?_
      | refine LeO.bind ?_ (fun _ => ?_)
    · intro y0 y1 y2 y3
      unfold nat_show.l1
      repeat' first
      | (with_reducible exact ih0 _ _)
      | (with_reducible exact ih1 _ _ _ _)
      | (with_reducible exact ih2 _)
      | (with_reducible exact nat_short.mono _ _ _)
      | (with_reducible exact nat_trim.mono _ _)
      | (with_reducible exact nat_trim.mono _ _)
      | (with_reducible exact slices_Reverse_byte_byte.mono _ _)
      | (with_reducible exact LeO.refl _)
      | (with_reducible exact LeO.none _)
      | (with_reducible refine LeO.ite ?_ ?_)
      | (with_reducible refine LeO.bind ?_ (fun _ => ?_))
      | exact ih0 _ _
      | exact ih1 _ _ _ _
      | exact ih2 _
      | exact nat_short.mono _ _ _
      | exact nat_trim.mono _ _
      | exact nat_trim.mono _ _
      | exact slices_Reverse_byte_byte.mono _ _
      | exact LeO.none _
      | refine LeO.ite ?_ ?_
      | refine LeO.bind ?_ (fun _ => ?_)
    · intro y0
      unfold nat_show.l2
      repeat' first
      | (with_reducible exact ih0 _ _)
      | (with_reducible exact ih1 _ _ _ _)
      | (with_reducible exact ih2 _)
      | (with_reducible exact nat_short.mono _ _ _)
      | (with_reducible exact nat_trim.mono _ _)
      | (with_reducible exact nat_trim.mono _ _)
      | (with_reducible exact slices_Reverse_byte_byte.mono _ _)
      | (with_reducible exact LeO.refl _)
      | (with_reducible exact LeO.none _)
      | (with_reducible refine LeO.ite ?_ ?_)
      | (with_reducible refine LeO.bind ?_ (fun _ => ?_))
      | exact ih0 _ _
      | exact ih1 _ _ _ _
      | exact ih2 _
      | exact nat_short.mono _ _ _
      | exact nat_trim.mono _ _
      | exact nat_trim.mono _ _
      | exact slices_Reverse_byte_byte.mono _ _
      | exact LeO.none _
      | refine LeO.ite ?_ ?_
      | refine LeO.bind ?_ (fun _ => ?_)
theorem nat_show.mono : ∀ a0 k, LeO (nat_show.f k a0) (nat_show.f (k + 1) a0) := by
  intro a0 k
  obtain ⟨ih0, ih1, ih2⟩ := nat_show.mono_l k
  unfold nat_show.f
  repeat' first
      | (with_reducible exact ih0 _ _)
      | (with_reducible exact ih1 _ _ _ _)
      | (with_reducible exact ih2 _)
      | (with_reducible exact nat_short.mono _ _ _)
      | (with_reducible exact nat_trim.mono _ _)
      | (with_reducible exact nat_trim.mono _ _)
      | (with_reducible exact slices_Reverse_byte_byte.mono _ _)
      | (with_reducible exact LeO.refl _)
      | (with_reducible exact LeO.none _)
      | (with_reducible refine LeO.ite ?_ ?_)
      | (with_reducible refine LeO.bind ?_ (fun _ => ?_))
      | exact ih0 _ _
      | exact ih1 _ _ _ _
      | exact ih2 _
      | exact nat_short.mono _ _ _
      | exact nat_trim.mono _ _
      | exact nat_trim.mono _ _
      | exact slices_Reverse_byte_byte.mono _ _
      | exact LeO.none _
      | refine LeO.ite ?_ ?_
      | refine LeO.bind ?_ (fun _ => ?_)
def nat_Show.f (k : Nat) (l0 : List Int) : Option (ByteArray) := (nat_show.f k l0).bind fun t860 => (some t860)
theorem nat_Show.mono : ∀ a0 k, LeO (nat_Show.f k a0) (nat_Show.f (k + 1) a0) := by
  intro a0 k
  unfold nat_Show.f
  repeat' first
      | (with_reducible exact nat_show.mono _ _)
      | (with_reducible exact LeO.refl _)
      | (with_reducible exact LeO.none _)
      | (with_reducible refine LeO.ite ?_ ?_)
      | (with_reducible refine LeO.bind ?_ (fun _ => ?_))
      | exact nat_show.mono _ _
      | exact LeO.none _
      | refine LeO.ite ?_ ?_
      | refine LeO.bind ?_ (fun _ => ?_)
def nat_Gcd.l0 : Nat → List Int → List Int → Option (List Int)
  | 0, _, _ => none
  | k + 1, x0, x1 => if (x1.length : Int) > 0 then ((nat_divmod.f k x0 x1).bind fun bt377 => (nat_Gcd.l0 k x1 bt377.2)) else (some x0)
def nat_Gcd.f (k : Nat) (l0 : List Int) (l1 : List Int) : Option (List Int) := (nat_trim.f k l0).bind fun t365 => ((api_Nat_uint32.f t365).bind fun t368 => ((nat_trim.f k l1).bind fun t371 => ((api_Nat_uint32.f t371).bind fun t374 => (nat_Gcd.l0 k t368 t374))))
theorem nat_Gcd.mono_l : ∀ k, (∀ y0 y1, LeO (nat_Gcd.l0 k y0 y1) (nat_Gcd.l0 (k + 1) y0 y1))
  | 0 => fun _ _ r h => by simp [nat_Gcd.l0] at h
  | k + 1 => by
    have ih0 := nat_Gcd.mono_l k
    · intro y0 y1
      unfold nat_Gcd.l0
      repeat' first
      | (with_reducible exact ih0 _ _)
      | (with_reducible exact nat_divmod.mono _ _ _)
      | (with_reducible exact nat_trim.mono _ _)
      | (with_reducible exact LeO.refl _)
      | (with_reducible exact LeO.none _)
      | (with_reducible refine LeO.ite ?_ ?_)
      | (with_reducible refine LeO.bind ?_ (fun _ => ?_))
      | exact ih0 _ _
      | exact nat_divmod.mono _ _ _
      | exact nat_trim.mono _ _
      | exact LeO.none _
      | refine LeO.ite ?_ ?_
      | refine LeO.bind ?_ (fun _ => ?_)
theorem nat_Gcd.mono : ∀ a0 a1 k, LeO (nat_Gcd.f k a0 a1) (nat_Gcd.f (k + 1) a0 a1) := by
  intro a0 a1 k
  have ih0 := nat_Gcd.mono_l k
  unfold nat_Gcd.f
  repeat' first
      | (with_reducible exact ih0 _ _)
      | (with_reducible exact nat_divmod.mono _ _ _)
      | (with_reducible exact nat_trim.mono _ _)
      | (with_reducible exact LeO.refl _)
      | (with_reducible exact LeO.none _)
      | (with_reducible refine LeO.ite ?_ ?_)
      | (with_reducible refine LeO.bind ?_ (fun _ => ?_))
      | exact ih0 _ _
      | exact nat_divmod.mono _ _ _
      | exact nat_trim.mono _ _
      | exact LeO.none _
      | refine LeO.ite ?_ ?_
      | refine LeO.bind ?_ (fun _ => ?_)
mutual
def nat_Parse.l0 : Nat → ByteArray → List Int → Int → Int → Option (List Int × Int)
  | 0, _, _, _, _ => none
  | k + 1, x0, x11, x12, x13 => if x13 < x12 then (if 0 ≤ x13 then (if x13 < (x11.length : Int) then (if (rd x11 x13) < 48 then (some (([] : List Int), 4)) else (if (rd x11 x13) > 57 then (some (([] : List Int), 4)) else (nat_Parse.l0 k x0 x11 x12 (wrap64 (x13 + 1))))) else (none)) else (none)) else (if x0.toList = ([] : List UInt8) then (nat_Parse.j1 k x0 true) else (if 0 < (x0.size : Int) then (if (bt x0 0) = 48 then (nat_Parse.j1 k x0 (decide ((x0.size : Int) > 1))) else (nat_Parse.j1 k x0 false)) else (none)))
def nat_Parse.j1 : Nat → ByteArray → Bool → Option (List Int × Int)
  | 0, _, _ => none
  | k + 1, x0, x24 => if x24 = true then (some (([] : List Int), 4)) else (if (x0.size : Int) > 2000 then (some (([] : List Int), 5)) else (nat_Parse.l1 k x0 ([] : List Int) (x0.size : Int) 0))
def nat_Parse.l1 : Nat → ByteArray → List Int → Int → Int → Option (List Int × Int)
  | 0, _, _, _, _ => none
  | k + 1, x0, x6, x42, x43 => if x43 < x42 then (if 0 ≤ x43 then (if x43 < (x0.size : Int) then (nat_Parse.l2 k x0 x6 (((bt x0 x43) - 48) % 256) x42 x43 (x6.length : Int) 0) else (none)) else (none)) else (some (x6, 0))
def nat_Parse.l2 : Nat → ByteArray → List Int → Int → Int → Int → Int → Int → Option (List Int × Int)
  | 0, _, _, _, _, _, _, _ => none
  | k + 1, x0, x6, x8, x42, x43, x52, x53 => if x53 < x52 then (if 0 ≤ x53 then (if x53 < (x6.length : Int) then (nat_Parse.l2 k x0 (x6.set (x53 : Int).toNat ((IntKind.u64.wrap (x8 + (IntKind.u64.wrap ((IntKind.u64.wrap (rd x6 x53)) * 10)))) % 4294967296)) ((IntKind.u64.wrap (x8 + (IntKind.u64.wrap ((IntKind.u64.wrap (rd x6 x53)) * 10)))) / 4294967296) x42 x43 x52 (wrap64 (x53 + 1))) else (none)) else (none)) else (if x8 > 0 then (if x6.length < 35184372088832 then (nat_Parse.l1 k x0 (x6 ++ [(x8) % 4294967296]) x42 (wrap64 (x43 + 1))) else (none)) else (nat_Parse.l1 k x0 x6 x42 (wrap64 (x43 + 1))))
end
def nat_Parse.f (k : Nat) (a0 : ByteArray) : Option (List Int × Int) := if a0.size ≤ 9223372036854775807 then ((some (bytesOf a0 : List Int)).bind fun y1244 => (nat_Parse.l0 k a0 y1244 (y1244.length : Int) 0)) else (none)
theorem nat_Parse.mono_l : ∀ k, (∀ y0 y1 y2 y3, LeO (nat_Parse.l0 k y0 y1 y2 y3) (nat_Parse.l0 (k + 1) y0 y1 y2 y3)) ∧ (∀ y0 y1, LeO (nat_Parse.j1 k y0 y1) (nat_Parse.j1 (k + 1) y0 y1)) ∧ (∀ y0 y1 y2 y3, LeO (nat_Parse.l1 k y0 y1 y2 y3) (nat_Parse.l1 (k + 1) y0 y1 y2 y3)) ∧ (∀ y0 y1 y2 y3 y4 y5 y6, LeO (nat_Parse.l2 k y0 y1 y2 y3 y4 y5 y6) (nat_Parse.l2 (k + 1) y0 y1 y2 y3 y4 y5 y6))
  | 0 => ⟨fun _ _ _ _ r h => by simp [nat_Parse.l0] at h, fun _ _ r h => by simp [nat_Parse.j1] at h, fun _ _ _ _ r h => by simp [nat_Parse.l1] at h, fun _ _ _ _ _ _ _ r h => by simp [nat_Parse.l2] at h⟩
  | k + 1 => by
    obtain ⟨ih0, ih1, ih2, ih3⟩ := nat_Parse.mono_l k
    refine ⟨?_, ?_, ?_, ?_⟩
    · intro y0 y1 y2 y3
      unfold nat_Parse.l0
      repeat' first
      | (with_reducible exact ih0 _ _ _ _)
      | (with_reducible exact ih1 _ _)
      | (with_reducible exact ih2 _ _ _ _)
      | (with_reducible exact ih3 _ _ _ _ _ _ _)
      | (with_reducible exact LeO.refl _)
      | (with_reducible exact LeO.none _)
      | (with_reducible refine LeO.ite ?_ ?_)
      | (with_reducible refine LeO.bind ?_ (fun _ => ?_))
      | exact ih0 _ _ _ _
      | exact ih1 _ _
      | exact ih2 _ _ _ _
      | exact ih3 _ _ _ _ _ _ _
      | exact LeO.none _
      | refine LeO.ite ?_ ?_
      | refine LeO.bind ?_ (fun _ => ?_)
    · intro y0 y1
      unfold nat_Parse.j1
      repeat' first
      | (with_reducible exact ih0 _ _ _ _)
      | (with_reducible exact ih1 _ _)
      | (with_reducible exact ih2 _ _ _ _)
      | (with_reducible exact ih3 _ _ _ _ _ _ _)
      | (with_reducible exact LeO.refl _)
      | (with_reducible exact LeO.none _)
      | (with_reducible refine LeO.ite ?_ ?_)
      | (with_reducible refine LeO.bind ?_ (fun _ => ?_))
      | exact ih0 _ _ _ _
      | exact ih1 _ _
      | exact ih2 _ _ _ _
      | exact ih3 _ _ _ _ _ _ _
      | exact LeO.none _
      | refine LeO.ite ?_ ?_
      | refine LeO.bind ?_ (fun _ => ?_)
    · intro y0 y1 y2 y3
      unfold nat_Parse.l1
      repeat' first
      | (with_reducible exact ih0 _ _ _ _)
      | (with_reducible exact ih1 _ _)
      | (with_reducible exact ih2 _ _ _ _)
      | (with_reducible exact ih3 _ _ _ _ _ _ _)
      | (with_reducible exact LeO.refl _)
      | (with_reducible exact LeO.none _)
      | (with_reducible refine LeO.ite ?_ ?_)
      | (with_reducible refine LeO.bind ?_ (fun _ => ?_))
      | exact ih0 _ _ _ _
      | exact ih1 _ _
      | exact ih2 _ _ _ _
      | exact ih3 _ _ _ _ _ _ _
      | exact LeO.none _
      | refine LeO.ite ?_ ?_
      | refine LeO.bind ?_ (fun _ => ?_)
    · intro y0 y1 y2 y3 y4 y5 y6
      unfold nat_Parse.l2
      repeat' first
      | (with_reducible exact ih0 _ _ _ _)
      | (with_reducible exact ih1 _ _)
      | (with_reducible exact ih2 _ _ _ _)
      | (with_reducible exact ih3 _ _ _ _ _ _ _)
      | (with_reducible exact LeO.refl _)
      | (with_reducible exact LeO.none _)
      | (with_reducible refine LeO.ite ?_ ?_)
      | (with_reducible refine LeO.bind ?_ (fun _ => ?_))
      | exact ih0 _ _ _ _
      | exact ih1 _ _
      | exact ih2 _ _ _ _
      | exact ih3 _ _ _ _ _ _ _
      | exact LeO.none _
      | refine LeO.ite ?_ ?_
      | refine LeO.bind ?_ (fun _ => ?_)
theorem nat_Parse.mono : ∀ a0 k, LeO (nat_Parse.f k a0) (nat_Parse.f (k + 1) a0) := by
  intro a0 k
  obtain ⟨ih0, ih1, ih2, ih3⟩ := nat_Parse.mono_l k
  unfold nat_Parse.f
  repeat' first
      | (with_reducible exact ih0 _ _ _ _)
      | (with_reducible exact ih1 _ _)
      | (with_reducible exact ih2 _ _ _ _)
      | (with_reducible exact ih3 _ _ _ _ _ _ _)
      | (with_reducible exact LeO.refl _)
      | (with_reducible exact LeO.none _)
      | (with_reducible refine LeO.ite ?_ ?_)
      | (with_reducible refine LeO.bind ?_ (fun _ => ?_))
      | exact ih0 _ _ _ _
      | exact ih1 _ _
      | exact ih2 _ _ _ _
      | exact ih3 _ _ _ _ _ _ _
      | exact LeO.none _
      | refine LeO.ite ?_ ?_
      | refine LeO.bind ?_ (fun _ => ?_)
def zelligeref03_Trim.l0 : Nat → List Int → Int → Option (List Int)
  | 0, _, _ => none
  | k + 1, x0, x3 => if x3 > 0 then (if 0 ≤ (wrap64 (x3 - 1)) then (if (wrap64 (x3 - 1)) < (x0.length : Int) then (if (rd x0 (wrap64 (x3 - 1))) = 0 then (zelligeref03_Trim.l0 k x0 (wrap64 (x3 - 1))) else (if 0 ≤ x3 then (if x3 ≤ (x0.length : Int) then (some (x0.take (x3 : Int).toNat)) else (none)) else (none))) else (none)) else (none)) else (if 0 ≤ x3 then (if x3 ≤ (x0.length : Int) then (some (x0.take (x3 : Int).toNat)) else (none)) else (none))
def zelligeref03_Trim.f (k : Nat) (l0 : List Int) : Option (List Int) := zelligeref03_Trim.l0 k l0 (l0.length : Int)
theorem zelligeref03_Trim.mono_l : ∀ k, (∀ y0 y1, LeO (zelligeref03_Trim.l0 k y0 y1) (zelligeref03_Trim.l0 (k + 1) y0 y1))
  | 0 => fun _ _ r h => by simp [zelligeref03_Trim.l0] at h
  | k + 1 => by
    have ih0 := zelligeref03_Trim.mono_l k
    · intro y0 y1
      unfold zelligeref03_Trim.l0
      repeat' first
      | (with_reducible exact ih0 _ _)
      | (with_reducible exact LeO.refl _)
      | (with_reducible exact LeO.none _)
      | (with_reducible refine LeO.ite ?_ ?_)
      | (with_reducible refine LeO.bind ?_ (fun _ => ?_))
      | exact ih0 _ _
      | exact LeO.none _
      | refine LeO.ite ?_ ?_
      | refine LeO.bind ?_ (fun _ => ?_)
theorem zelligeref03_Trim.mono : ∀ a0 k, LeO (zelligeref03_Trim.f k a0) (zelligeref03_Trim.f (k + 1) a0) := by
  intro a0 k
  have ih0 := zelligeref03_Trim.mono_l k
  unfold zelligeref03_Trim.f
  repeat' first
      | (with_reducible exact ih0 _ _)
      | (with_reducible exact LeO.refl _)
      | (with_reducible exact LeO.none _)
      | (with_reducible refine LeO.ite ?_ ?_)
      | (with_reducible refine LeO.bind ?_ (fun _ => ?_))
      | exact ih0 _ _
      | exact LeO.none _
      | refine LeO.ite ?_ ?_
      | refine LeO.bind ?_ (fun _ => ?_)
def zelligeref03_Of.l0 : Nat → List Int → List Int → Int → Option (List Int)
  | 0, _, _, _ => none
  | k + 1, x0, x3, x4 => if x4 < (x0.length : Int) then (if 0 ≤ x4 then ((some (([wrap64 (Int.tmod (rd x0 x4) 65536), (Int.tdiv (rd x0 x4) 65536) % 4294967296] : List Int) : List Int)).bind fun y190 => (if x3.length + y190.length < 17592186044416 then (zelligeref03_Of.l0 k x0 (x3 ++ y190) (wrap64 (x4 + 1))) else (none))) else (none)) else ((zelligeref03_Trim.f k x3).bind fun t196 => (some t196))
def zelligeref03_Of.f (k : Nat) (l0 : List Int) : Option (List Int) := zelligeref03_Of.l0 k l0 (([] : List Int)) 0
theorem zelligeref03_Of.mono_l : ∀ k, (∀ y0 y1 y2, LeO (zelligeref03_Of.l0 k y0 y1 y2) (zelligeref03_Of.l0 (k + 1) y0 y1 y2))
  | 0 => fun _ _ _ r h => by simp [zelligeref03_Of.l0] at h
  | k + 1 => by
    have ih0 := zelligeref03_Of.mono_l k
    · intro y0 y1 y2
      unfold zelligeref03_Of.l0
      repeat' first
      | (with_reducible exact ih0 _ _ _)
      | (with_reducible exact zelligeref03_Trim.mono _ _)
      | (with_reducible exact LeO.refl _)
      | (with_reducible exact LeO.none _)
      | (with_reducible refine LeO.ite ?_ ?_)
      | (with_reducible refine LeO.bind ?_ (fun _ => ?_))
      | exact ih0 _ _ _
      | exact zelligeref03_Trim.mono _ _
      | exact LeO.none _
      | refine LeO.ite ?_ ?_
      | refine LeO.bind ?_ (fun _ => ?_)
theorem zelligeref03_Of.mono : ∀ a0 k, LeO (zelligeref03_Of.f k a0) (zelligeref03_Of.f (k + 1) a0) := by
  intro a0 k
  have ih0 := zelligeref03_Of.mono_l k
  unfold zelligeref03_Of.f
  repeat' first
      | (with_reducible exact ih0 _ _ _)
      | (with_reducible exact zelligeref03_Trim.mono _ _)
      | (with_reducible exact LeO.refl _)
      | (with_reducible exact LeO.none _)
      | (with_reducible refine LeO.ite ?_ ?_)
      | (with_reducible refine LeO.bind ?_ (fun _ => ?_))
      | exact ih0 _ _ _
      | exact zelligeref03_Trim.mono _ _
      | exact LeO.none _
      | refine LeO.ite ?_ ?_
      | refine LeO.bind ?_ (fun _ => ?_)
def zelligeref03_Cmp.l0 : Nat → List Int → List Int → Int → Option (Int)
  | 0, _, _, _ => none
  | k + 1, x0, x1, x5 => if x5 ≥ 0 then (if 0 ≤ x5 then (if x5 < (x0.length : Int) then (if x5 < (x1.length : Int) then (if (rd x0 x5) < (rd x1 x5) then (some (-1)) else (if (rd x0 x5) > (rd x1 x5) then (some 1) else (zelligeref03_Cmp.l0 k x0 x1 (wrap64 (x5 - 1))))) else (none)) else (none)) else (none)) else (some 0)
def zelligeref03_Cmp.f (k : Nat) (l0 : List Int) (l1 : List Int) : Option (Int) := if (l0.length : Int) < (l1.length : Int) then (some (-1)) else (if (l0.length : Int) > (l1.length : Int) then (some 1) else (zelligeref03_Cmp.l0 k l0 l1 (wrap64 ((l0.length : Int) - 1))))
theorem zelligeref03_Cmp.mono_l : ∀ k, (∀ y0 y1 y2, LeO (zelligeref03_Cmp.l0 k y0 y1 y2) (zelligeref03_Cmp.l0 (k + 1) y0 y1 y2))
  | 0 => fun _ _ _ r h => by simp [zelligeref03_Cmp.l0] at h
  | k + 1 => by
    have ih0 := zelligeref03_Cmp.mono_l k
    · intro y0 y1 y2
      unfold zelligeref03_Cmp.l0
      repeat' first
      | (with_reducible exact ih0 _ _ _)
      | (with_reducible exact LeO.refl _)
      | (with_reducible exact LeO.none _)
      | (with_reducible refine LeO.ite ?_ ?_)
      | (with_reducible refine LeO.bind ?_ (fun _ => ?_))
      | exact ih0 _ _ _
      | exact LeO.none _
      | refine LeO.ite ?_ ?_
      | refine LeO.bind ?_ (fun _ => ?_)
theorem zelligeref03_Cmp.mono : ∀ a0 a1 k, LeO (zelligeref03_Cmp.f k a0 a1) (zelligeref03_Cmp.f (k + 1) a0 a1) := by
  intro a0 a1 k
  have ih0 := zelligeref03_Cmp.mono_l k
  unfold zelligeref03_Cmp.f
  repeat' first
      | (with_reducible exact ih0 _ _ _)
      | (with_reducible exact LeO.refl _)
      | (with_reducible exact LeO.none _)
      | (with_reducible refine LeO.ite ?_ ?_)
      | (with_reducible refine LeO.bind ?_ (fun _ => ?_))
      | exact ih0 _ _ _
      | exact LeO.none _
      | refine LeO.ite ?_ ?_
      | refine LeO.bind ?_ (fun _ => ?_)
def zelligeref03_Nat.l0 : Nat → List Int → List Int → Int → Option (List Int)
  | 0, _, _, _ => none
  | k + 1, x0, x3, x4 => if x4 < (x0.length : Int) then (if 0 ≤ x4 then (if (wrap64 (x4 + 1)) < (x0.length : Int) then (if 0 ≤ (wrap64 (x4 + 1)) then (if x3.length < 35184372088832 then (zelligeref03_Nat.l0 k x0 (x3 ++ [(wrap64 ((rd x0 x4) + (wrap64 (65536 * (rd x0 (wrap64 (x4 + 1))))))) % 4294967296]) (wrap64 (x4 + 2))) else (none)) else (none)) else (if x3.length < 35184372088832 then (zelligeref03_Nat.l0 k x0 (x3 ++ [(rd x0 x4) % 4294967296]) (wrap64 (x4 + 2))) else (none))) else (none)) else (some x3)
def zelligeref03_Nat.f (k : Nat) (l0 : List Int) : Option (List Int) := zelligeref03_Nat.l0 k l0 (([] : List Int)) 0
theorem zelligeref03_Nat.mono_l : ∀ k, (∀ y0 y1 y2, LeO (zelligeref03_Nat.l0 k y0 y1 y2) (zelligeref03_Nat.l0 (k + 1) y0 y1 y2))
  | 0 => fun _ _ _ r h => by simp [zelligeref03_Nat.l0] at h
  | k + 1 => by
    have ih0 := zelligeref03_Nat.mono_l k
    · intro y0 y1 y2
      unfold zelligeref03_Nat.l0
      repeat' first
      | (with_reducible exact ih0 _ _ _)
      | (with_reducible exact LeO.refl _)
      | (with_reducible exact LeO.none _)
      | (with_reducible refine LeO.ite ?_ ?_)
      | (with_reducible refine LeO.bind ?_ (fun _ => ?_))
      | exact ih0 _ _ _
      | exact LeO.none _
      | refine LeO.ite ?_ ?_
      | refine LeO.bind ?_ (fun _ => ?_)
theorem zelligeref03_Nat.mono : ∀ a0 k, LeO (zelligeref03_Nat.f k a0) (zelligeref03_Nat.f (k + 1) a0) := by
  intro a0 k
  have ih0 := zelligeref03_Nat.mono_l k
  unfold zelligeref03_Nat.f
  repeat' first
      | (with_reducible exact ih0 _ _ _)
      | (with_reducible exact LeO.refl _)
      | (with_reducible exact LeO.none _)
      | (with_reducible refine LeO.ite ?_ ?_)
      | (with_reducible refine LeO.bind ?_ (fun _ => ?_))
      | exact ih0 _ _ _
      | exact LeO.none _
      | refine LeO.ite ?_ ?_
      | refine LeO.bind ?_ (fun _ => ?_)
def zelligeref03_Same.l0 : Nat → List Int → List Int → Int → Option (Bool)
  | 0, _, _, _ => none
  | k + 1, x0, x5, x6 => if x6 < (x0.length : Int) then (if 0 ≤ x6 then (if x6 < (x5.length : Int) then (if (rd x0 x6) = (rd x5 x6) then (zelligeref03_Same.l0 k x0 x5 (wrap64 (x6 + 1))) else (some false)) else (none)) else (none)) else (some true)
def zelligeref03_Same.f (k : Nat) (l0 : List Int) (l1 : List Int) : Option (Bool) := (zelligeref03_Nat.f k l1).bind fun t641 => (if (l0.length : Int) = (t641.length : Int) then (zelligeref03_Same.l0 k l0 t641 0) else (some false))
theorem zelligeref03_Same.mono_l : ∀ k, (∀ y0 y1 y2, LeO (zelligeref03_Same.l0 k y0 y1 y2) (zelligeref03_Same.l0 (k + 1) y0 y1 y2))
  | 0 => fun _ _ _ r h => by simp [zelligeref03_Same.l0] at h
  | k + 1 => by
    have ih0 := zelligeref03_Same.mono_l k
    · intro y0 y1 y2
      unfold zelligeref03_Same.l0
      repeat' first
      | (with_reducible exact ih0 _ _ _)
      | (with_reducible exact zelligeref03_Nat.mono _ _)
      | (with_reducible exact LeO.refl _)
      | (with_reducible exact LeO.none _)
      | (with_reducible refine LeO.ite ?_ ?_)
      | (with_reducible refine LeO.bind ?_ (fun _ => ?_))
      | exact ih0 _ _ _
      | exact zelligeref03_Nat.mono _ _
      | exact LeO.none _
      | refine LeO.ite ?_ ?_
      | refine LeO.bind ?_ (fun _ => ?_)
theorem zelligeref03_Same.mono : ∀ a0 a1 k, LeO (zelligeref03_Same.f k a0 a1) (zelligeref03_Same.f (k + 1) a0 a1) := by
  intro a0 a1 k
  have ih0 := zelligeref03_Same.mono_l k
  unfold zelligeref03_Same.f
  repeat' first
      | (with_reducible exact ih0 _ _ _)
      | (with_reducible exact zelligeref03_Nat.mono _ _)
      | (with_reducible exact LeO.refl _)
      | (with_reducible exact LeO.none _)
      | (with_reducible refine LeO.ite ?_ ?_)
      | (with_reducible refine LeO.bind ?_ (fun _ => ?_))
      | exact ih0 _ _ _
      | exact zelligeref03_Nat.mono _ _
      | exact LeO.none _
      | refine LeO.ite ?_ ?_
      | refine LeO.bind ?_ (fun _ => ?_)
def zelligeref04_Long.f (k : Nat) (a0 : Int) : Option (Int × List Int) := if a0 = 0 then (some (0, ([] : List Int))) else (if a0 < 0 then ((zelligeref03_Of.f k (([(IntKind.u64.wrap (-(IntKind.u64.wrap (a0)))) % 4294967296, ((IntKind.u64.wrap (-(IntKind.u64.wrap (a0)))) / 4294967296) % 4294967296] : List Int))).bind fun t203 => (some ((-1), t203))) else ((zelligeref03_Of.f k (([(IntKind.u64.wrap (a0)) % 4294967296, ((IntKind.u64.wrap (a0)) / 4294967296) % 4294967296] : List Int))).bind fun t209 => (some (1, t209))))
theorem zelligeref04_Long.mono : ∀ a0 k, LeO (zelligeref04_Long.f k a0) (zelligeref04_Long.f (k + 1) a0) := by
  intro a0 k
  unfold zelligeref04_Long.f
  repeat' first
      | (with_reducible exact zelligeref03_Of.mono _ _)
      | (with_reducible exact LeO.refl _)
      | (with_reducible exact LeO.none _)
      | (with_reducible refine LeO.ite ?_ ?_)
      | (with_reducible refine LeO.bind ?_ (fun _ => ?_))
      | exact zelligeref03_Of.mono _ _
      | exact LeO.none _
      | refine LeO.ite ?_ ?_
      | refine LeO.bind ?_ (fun _ => ?_)
def zelligeref04_Of.f (k : Nat) (a0_0 : Bool) (l0_1 : List Int) : Option (Int × List Int) := (zelligeref03_Of.f k l0_1).bind fun t214 => (if (t214.length : Int) = 0 then (some (0, ([] : List Int))) else (if a0_0 = true then (some ((-1), t214)) else (some (1, t214))))
theorem zelligeref04_Of.mono : ∀ a0 a1 k, LeO (zelligeref04_Of.f k a0 a1) (zelligeref04_Of.f (k + 1) a0 a1) := by
  intro a0 a1 k
  unfold zelligeref04_Of.f
  repeat' first
      | (with_reducible exact zelligeref03_Of.mono _ _)
      | (with_reducible exact LeO.refl _)
      | (with_reducible exact LeO.none _)
      | (with_reducible refine LeO.ite ?_ ?_)
      | (with_reducible refine LeO.bind ?_ (fun _ => ?_))
      | exact zelligeref03_Of.mono _ _
      | exact LeO.none _
      | refine LeO.ite ?_ ?_
      | refine LeO.bind ?_ (fun _ => ?_)
def zelligeref04_Neg.f (a0_0 : Int) (l0_1 : List Int) : Option (Int × List Int) := some (wrap64 (-a0_0), l0_1)
def zelligeref04_make1.f (a0 : Int) (l1 : List Int) : Option (Int × List Int) := if (l1.length : Int) = 0 then (some (0, ([] : List Int))) else (some (a0, l1))
def zelligeref04_Same.f (k : Nat) (a0_0 : Bool) (l0_1 : List Int) (a1_0 : Int) (l1_1 : List Int) : Option (Bool) := (zelligeref03_Same.f k l0_1 l1_1).bind fun t648 => (if t648 = true then (some (a0_0 == (decide (a1_0 < 0)))) else (some false))
theorem zelligeref04_Same.mono : ∀ a0 a1 a2 a3 k, LeO (zelligeref04_Same.f k a0 a1 a2 a3) (zelligeref04_Same.f (k + 1) a0 a1 a2 a3) := by
  intro a0 a1 a2 a3 k
  unfold zelligeref04_Same.f
  repeat' first
      | (with_reducible exact zelligeref03_Same.mono _ _ _)
      | (with_reducible exact LeO.refl _)
      | (with_reducible exact LeO.none _)
      | (with_reducible refine LeO.ite ?_ ?_)
      | (with_reducible refine LeO.bind ?_ (fun _ => ?_))
      | exact zelligeref03_Same.mono _ _ _
      | exact LeO.none _
      | refine LeO.ite ?_ ?_
      | refine LeO.bind ?_ (fun _ => ?_)
mutual
def zelligeref03_Mul.l0 : Nat → List Int → List Int → List Int → Int → Option (List Int)
  | 0, _, _, _, _ => none
  | k + 1, x0, x1, x5, x6 => if x6 < (x0.length : Int) then (zelligeref03_Mul.l1 k x0 x1 x5 x6 0 0) else ((zelligeref03_Trim.f k x5).bind fun t504 => (some t504))
def zelligeref03_Mul.l1 : Nat → List Int → List Int → List Int → Int → Int → Int → Option (List Int)
  | 0, _, _, _, _, _, _ => none
  | k + 1, x0, x1, x5, x6, x7, x8 => if x8 < (x1.length : Int) then (if 0 ≤ (wrap64 (x6 + x8)) then (if (wrap64 (x6 + x8)) < (x5.length : Int) then (if 0 ≤ x6 then (if x6 < (x0.length : Int) then (if 0 ≤ x8 then (zelligeref03_Mul.l1 k x0 x1 (x5.set ((wrap64 (x6 + x8)) : Int).toNat (Int.tmod (wrap64 ((wrap64 (x7 + (rd x5 (wrap64 (x6 + x8))))) + (wrap64 ((rd x0 x6) * (rd x1 x8))))) 65536)) x6 (wrap64 (Int.tdiv (wrap64 ((wrap64 (x7 + (rd x5 (wrap64 (x6 + x8))))) + (wrap64 ((rd x0 x6) * (rd x1 x8))))) 65536)) (wrap64 (x8 + 1))) else (none)) else (none)) else (none)) else (none)) else (none)) else (if 0 ≤ (wrap64 (x6 + (x1.length : Int))) then (if (wrap64 (x6 + (x1.length : Int))) < (x5.length : Int) then (zelligeref03_Mul.l0 k x0 x1 (x5.set ((wrap64 (x6 + (x1.length : Int))) : Int).toNat x7) (wrap64 (x6 + 1))) else (none)) else (none))
end
def zelligeref03_Mul.f (k : Nat) (l0 : List Int) (l1 : List Int) : Option (List Int) := if 0 ≤ (wrap64 ((l0.length : Int) + (l1.length : Int))) then (if (wrap64 ((l0.length : Int) + (l1.length : Int)) : Int).toNat ≤ 35184372088832 then (zelligeref03_Mul.l0 k l0 l1 (List.replicate (wrap64 ((l0.length : Int) + (l1.length : Int)) : Int).toNat 0) 0) else (none)) else (none)
theorem zelligeref03_Mul.mono_l : ∀ k, (∀ y0 y1 y2 y3, LeO (zelligeref03_Mul.l0 k y0 y1 y2 y3) (zelligeref03_Mul.l0 (k + 1) y0 y1 y2 y3)) ∧ (∀ y0 y1 y2 y3 y4 y5, LeO (zelligeref03_Mul.l1 k y0 y1 y2 y3 y4 y5) (zelligeref03_Mul.l1 (k + 1) y0 y1 y2 y3 y4 y5))
  | 0 => ⟨fun _ _ _ _ r h => by simp [zelligeref03_Mul.l0] at h, fun _ _ _ _ _ _ r h => by simp [zelligeref03_Mul.l1] at h⟩
  | k + 1 => by
    obtain ⟨ih0, ih1⟩ := zelligeref03_Mul.mono_l k
    refine ⟨?_, ?_⟩
    · intro y0 y1 y2 y3
      unfold zelligeref03_Mul.l0
      repeat' first
      | (with_reducible exact ih0 _ _ _ _)
      | (with_reducible exact ih1 _ _ _ _ _ _)
      | (with_reducible exact zelligeref03_Trim.mono _ _)
      | (with_reducible exact LeO.refl _)
      | (with_reducible exact LeO.none _)
      | (with_reducible refine LeO.ite ?_ ?_)
      | (with_reducible refine LeO.bind ?_ (fun _ => ?_))
      | exact ih0 _ _ _ _
      | exact ih1 _ _ _ _ _ _
      | exact zelligeref03_Trim.mono _ _
      | exact LeO.none _
      | refine LeO.ite ?_ ?_
      | refine LeO.bind ?_ (fun _ => ?_)
    · intro y0 y1 y2 y3 y4 y5
      unfold zelligeref03_Mul.l1
      repeat' first
      | (with_reducible exact ih0 _ _ _ _)
      | (with_reducible exact ih1 _ _ _ _ _ _)
      | (with_reducible exact zelligeref03_Trim.mono _ _)
      | (with_reducible exact LeO.refl _)
      | (with_reducible exact LeO.none _)
      | (with_reducible refine LeO.ite ?_ ?_)
      | (with_reducible refine LeO.bind ?_ (fun _ => ?_))
      | exact ih0 _ _ _ _
      | exact ih1 _ _ _ _ _ _
      | exact zelligeref03_Trim.mono _ _
      | exact LeO.none _
      | refine LeO.ite ?_ ?_
      | refine LeO.bind ?_ (fun _ => ?_)
theorem zelligeref03_Mul.mono : ∀ a0 a1 k, LeO (zelligeref03_Mul.f k a0 a1) (zelligeref03_Mul.f (k + 1) a0 a1) := by
  intro a0 a1 k
  obtain ⟨ih0, ih1⟩ := zelligeref03_Mul.mono_l k
  unfold zelligeref03_Mul.f
  repeat' first
      | (with_reducible exact ih0 _ _ _ _)
      | (with_reducible exact ih1 _ _ _ _ _ _)
      | (with_reducible exact zelligeref03_Trim.mono _ _)
      | (with_reducible exact LeO.refl _)
      | (with_reducible exact LeO.none _)
      | (with_reducible refine LeO.ite ?_ ?_)
      | (with_reducible refine LeO.bind ?_ (fun _ => ?_))
      | exact ih0 _ _ _ _
      | exact ih1 _ _ _ _ _ _
      | exact zelligeref03_Trim.mono _ _
      | exact LeO.none _
      | refine LeO.ite ?_ ?_
      | refine LeO.bind ?_ (fun _ => ?_)
mutual
def zelligeref03_Add.l0 : Nat → List Int → List Int → List Int → Int → Int → Option (List Int)
  | 0, _, _, _, _, _ => none
  | k + 1, x0, x1, x5, x6, x7 => if x7 < (x0.length : Int) then (zelligeref03_Add.j1 k x0 x1 x5 x6 x7 true) else (zelligeref03_Add.j1 k x0 x1 x5 x6 x7 (decide (x7 < (x1.length : Int))))
def zelligeref03_Add.j1 : Nat → List Int → List Int → List Int → Int → Int → Bool → Option (List Int)
  | 0, _, _, _, _, _, _ => none
  | k + 1, x0, x1, x5, x6, x7, x18 => if x18 = true then (if x7 < (x0.length : Int) then (if 0 ≤ x7 then (if x7 < (x1.length : Int) then (if x5.length < 17592186044416 then (zelligeref03_Add.l0 k x0 x1 (x5 ++ [Int.tmod (wrap64 ((wrap64 (x6 + (rd x0 x7))) + (rd x1 x7))) 65536]) (wrap64 (Int.tdiv (wrap64 ((wrap64 (x6 + (rd x0 x7))) + (rd x1 x7))) 65536)) (wrap64 (x7 + 1))) else (none)) else (if x5.length < 17592186044416 then (zelligeref03_Add.l0 k x0 x1 (x5 ++ [Int.tmod (wrap64 (x6 + (rd x0 x7))) 65536]) (wrap64 (Int.tdiv (wrap64 (x6 + (rd x0 x7))) 65536)) (wrap64 (x7 + 1))) else (none))) else (none)) else (if x7 < (x1.length : Int) then (if 0 ≤ x7 then (if x5.length < 17592186044416 then (zelligeref03_Add.l0 k x0 x1 (x5 ++ [Int.tmod (wrap64 (x6 + (rd x1 x7))) 65536]) (wrap64 (Int.tdiv (wrap64 (x6 + (rd x1 x7))) 65536)) (wrap64 (x7 + 1))) else (none)) else (none)) else (if x5.length < 17592186044416 then (zelligeref03_Add.l0 k x0 x1 (x5 ++ [Int.tmod x6 65536]) (wrap64 (Int.tdiv x6 65536)) (wrap64 (x7 + 1))) else (none)))) else (if x5.length < 17592186044416 then ((zelligeref03_Trim.f k (x5 ++ [x6])).bind fun t529 => (some t529)) else (none))
end
def zelligeref03_Add.f (k : Nat) (l0 : List Int) (l1 : List Int) : Option (List Int) := zelligeref03_Add.l0 k l0 l1 (([] : List Int)) 0 0
theorem zelligeref03_Add.mono_l : ∀ k, (∀ y0 y1 y2 y3 y4, LeO (zelligeref03_Add.l0 k y0 y1 y2 y3 y4) (zelligeref03_Add.l0 (k + 1) y0 y1 y2 y3 y4)) ∧ (∀ y0 y1 y2 y3 y4 y5, LeO (zelligeref03_Add.j1 k y0 y1 y2 y3 y4 y5) (zelligeref03_Add.j1 (k + 1) y0 y1 y2 y3 y4 y5))
  | 0 => ⟨fun _ _ _ _ _ r h => by simp [zelligeref03_Add.l0] at h, fun _ _ _ _ _ _ r h => by simp [zelligeref03_Add.j1] at h⟩
  | k + 1 => by
    obtain ⟨ih0, ih1⟩ := zelligeref03_Add.mono_l k
    refine ⟨?_, ?_⟩
    · intro y0 y1 y2 y3 y4
      unfold zelligeref03_Add.l0
      repeat' first
      | (with_reducible exact ih0 _ _ _ _ _)
      | (with_reducible exact ih1 _ _ _ _ _ _)
      | (with_reducible exact zelligeref03_Trim.mono _ _)
      | (with_reducible exact LeO.refl _)
      | (with_reducible exact LeO.none _)
      | (with_reducible refine LeO.ite ?_ ?_)
      | (with_reducible refine LeO.bind ?_ (fun _ => ?_))
      | exact ih0 _ _ _ _ _
      | exact ih1 _ _ _ _ _ _
      | exact zelligeref03_Trim.mono _ _
      | exact LeO.none _
      | refine LeO.ite ?_ ?_
      | refine LeO.bind ?_ (fun _ => ?_)
    · intro y0 y1 y2 y3 y4 y5
      unfold zelligeref03_Add.j1
      repeat' first
      | (with_reducible exact ih0 _ _ _ _ _)
      | (with_reducible exact ih1 _ _ _ _ _ _)
      | (with_reducible exact zelligeref03_Trim.mono _ _)
      | (with_reducible exact LeO.refl _)
      | (with_reducible exact LeO.none _)
      | (with_reducible refine LeO.ite ?_ ?_)
      | (with_reducible refine LeO.bind ?_ (fun _ => ?_))
      | exact ih0 _ _ _ _ _
      | exact ih1 _ _ _ _ _ _
      | exact zelligeref03_Trim.mono _ _
      | exact LeO.none _
      | refine LeO.ite ?_ ?_
      | refine LeO.bind ?_ (fun _ => ?_)
theorem zelligeref03_Add.mono : ∀ a0 a1 k, LeO (zelligeref03_Add.f k a0 a1) (zelligeref03_Add.f (k + 1) a0 a1) := by
  intro a0 a1 k
  obtain ⟨ih0, ih1⟩ := zelligeref03_Add.mono_l k
  unfold zelligeref03_Add.f
  repeat' first
      | (with_reducible exact ih0 _ _ _ _ _)
      | (with_reducible exact ih1 _ _ _ _ _ _)
      | (with_reducible exact zelligeref03_Trim.mono _ _)
      | (with_reducible exact LeO.refl _)
      | (with_reducible exact LeO.none _)
      | (with_reducible refine LeO.ite ?_ ?_)
      | (with_reducible refine LeO.bind ?_ (fun _ => ?_))
      | exact ih0 _ _ _ _ _
      | exact ih1 _ _ _ _ _ _
      | exact zelligeref03_Trim.mono _ _
      | exact LeO.none _
      | refine LeO.ite ?_ ?_
      | refine LeO.bind ?_ (fun _ => ?_)
def zelligeref03_Sub.l0 : Nat → List Int → List Int → List Int → Int → Int → Option (List Int)
  | 0, _, _, _, _, _ => none
  | k + 1, x0, x1, x5, x6, x7 => if x7 < (x0.length : Int) then (if 0 ≤ x7 then (if x7 < (x1.length : Int) then (if (wrap64 ((wrap64 ((rd x0 x7) - x6)) - (rd x1 x7))) < 0 then (if x5.length < 17592186044416 then (zelligeref03_Sub.l0 k x0 x1 (x5 ++ [wrap64 ((wrap64 ((wrap64 ((rd x0 x7) - x6)) - (rd x1 x7))) + 65536)]) 1 (wrap64 (x7 + 1))) else (none)) else (if x5.length < 17592186044416 then (zelligeref03_Sub.l0 k x0 x1 (x5 ++ [wrap64 ((wrap64 ((rd x0 x7) - x6)) - (rd x1 x7))]) 0 (wrap64 (x7 + 1))) else (none))) else (if (wrap64 ((rd x0 x7) - x6)) < 0 then (if x5.length < 17592186044416 then (zelligeref03_Sub.l0 k x0 x1 (x5 ++ [wrap64 ((wrap64 ((rd x0 x7) - x6)) + 65536)]) 1 (wrap64 (x7 + 1))) else (none)) else (if x5.length < 17592186044416 then (zelligeref03_Sub.l0 k x0 x1 (x5 ++ [wrap64 ((rd x0 x7) - x6)]) 0 (wrap64 (x7 + 1))) else (none)))) else (none)) else ((zelligeref03_Trim.f k x5).bind fun t554 => (some t554))
def zelligeref03_Sub.f (k : Nat) (l0 : List Int) (l1 : List Int) : Option (List Int) := zelligeref03_Sub.l0 k l0 l1 (([] : List Int)) 0 0
theorem zelligeref03_Sub.mono_l : ∀ k, (∀ y0 y1 y2 y3 y4, LeO (zelligeref03_Sub.l0 k y0 y1 y2 y3 y4) (zelligeref03_Sub.l0 (k + 1) y0 y1 y2 y3 y4))
  | 0 => fun _ _ _ _ _ r h => by simp [zelligeref03_Sub.l0] at h
  | k + 1 => by
    have ih0 := zelligeref03_Sub.mono_l k
    · intro y0 y1 y2 y3 y4
      unfold zelligeref03_Sub.l0
      repeat' first
      | (with_reducible exact ih0 _ _ _ _ _)
      | (with_reducible exact zelligeref03_Trim.mono _ _)
      | (with_reducible exact LeO.refl _)
      | (with_reducible exact LeO.none _)
      | (with_reducible refine LeO.ite ?_ ?_)
      | (with_reducible refine LeO.bind ?_ (fun _ => ?_))
      | exact ih0 _ _ _ _ _
      | exact zelligeref03_Trim.mono _ _
      | exact LeO.none _
      | refine LeO.ite ?_ ?_
      | refine LeO.bind ?_ (fun _ => ?_)
theorem zelligeref03_Sub.mono : ∀ a0 a1 k, LeO (zelligeref03_Sub.f k a0 a1) (zelligeref03_Sub.f (k + 1) a0 a1) := by
  intro a0 a1 k
  have ih0 := zelligeref03_Sub.mono_l k
  unfold zelligeref03_Sub.f
  repeat' first
      | (with_reducible exact ih0 _ _ _ _ _)
      | (with_reducible exact zelligeref03_Trim.mono _ _)
      | (with_reducible exact LeO.refl _)
      | (with_reducible exact LeO.none _)
      | (with_reducible refine LeO.ite ?_ ?_)
      | (with_reducible refine LeO.bind ?_ (fun _ => ?_))
      | exact ih0 _ _ _ _ _
      | exact zelligeref03_Trim.mono _ _
      | exact LeO.none _
      | refine LeO.ite ?_ ?_
      | refine LeO.bind ?_ (fun _ => ?_)
def zelligeref04_Add.f (k : Nat) (a0_0 : Int) (l0_1 : List Int) (a1_0 : Int) (l1_1 : List Int) : Option (Int × List Int) := if a0_0 = 0 then (some (a1_0, l1_1)) else (if a1_0 = 0 then (some (a0_0, l0_1)) else (if a0_0 = a1_0 then ((zelligeref03_Add.f k l0_1 l1_1).bind fun t574 => (some (a0_0, t574))) else ((zelligeref03_Cmp.f k l0_1 l1_1).bind fun t577 => (if t577 ≥ 0 then ((zelligeref03_Sub.f k l0_1 l1_1).bind fun t578 => ((zelligeref04_make1.f a0_0 t578).bind fun bt581 => (some (bt581.1, bt581.2)))) else ((zelligeref03_Sub.f k l1_1 l0_1).bind fun t585 => ((zelligeref04_make1.f a1_0 t585).bind fun bt588 => (some (bt588.1, bt588.2))))))))
theorem zelligeref04_Add.mono : ∀ a0 a1 a2 a3 k, LeO (zelligeref04_Add.f k a0 a1 a2 a3) (zelligeref04_Add.f (k + 1) a0 a1 a2 a3) := by
  intro a0 a1 a2 a3 k
  unfold zelligeref04_Add.f
  repeat' first
      | (with_reducible exact zelligeref03_Add.mono _ _ _)
      | (with_reducible exact zelligeref03_Cmp.mono _ _ _)
      | (with_reducible exact zelligeref03_Sub.mono _ _ _)
      | (with_reducible exact LeO.refl _)
      | (with_reducible exact LeO.none _)
      | (with_reducible refine LeO.ite ?_ ?_)
      | (with_reducible refine LeO.bind ?_ (fun _ => ?_))
      | exact zelligeref03_Add.mono _ _ _
      | exact zelligeref03_Cmp.mono _ _ _
      | exact zelligeref03_Sub.mono _ _ _
      | exact LeO.none _
      | refine LeO.ite ?_ ?_
      | refine LeO.bind ?_ (fun _ => ?_)
def zelligeref04_Mul.f (k : Nat) (a0_0 : Int) (l0_1 : List Int) (a1_0 : Int) (l1_1 : List Int) : Option (Int × List Int) := (zelligeref03_Mul.f k l0_1 l1_1).bind fun t516 => ((zelligeref04_make1.f (wrap64 (a0_0 * a1_0)) t516).bind fun bt519 => (some (bt519.1, bt519.2)))
theorem zelligeref04_Mul.mono : ∀ a0 a1 a2 a3 k, LeO (zelligeref04_Mul.f k a0 a1 a2 a3) (zelligeref04_Mul.f (k + 1) a0 a1 a2 a3) := by
  intro a0 a1 a2 a3 k
  unfold zelligeref04_Mul.f
  repeat' first
      | (with_reducible exact zelligeref03_Mul.mono _ _ _)
      | (with_reducible exact LeO.refl _)
      | (with_reducible exact LeO.none _)
      | (with_reducible refine LeO.ite ?_ ?_)
      | (with_reducible refine LeO.bind ?_ (fun _ => ?_))
      | exact zelligeref03_Mul.mono _ _ _
      | exact LeO.none _
      | refine LeO.ite ?_ ?_
      | refine LeO.bind ?_ (fun _ => ?_)
def zelligeref04_Sub.f (k : Nat) (a0_0 : Int) (l0_1 : List Int) (a1_0 : Int) (l1_1 : List Int) : Option (Int × List Int) := (zelligeref04_Neg.f a1_0 l1_1).bind fun bt677 => ((zelligeref04_Add.f k a0_0 l0_1 bt677.1 bt677.2).bind fun bt681 => (some (bt681.1, bt681.2)))
theorem zelligeref04_Sub.mono : ∀ a0 a1 a2 a3 k, LeO (zelligeref04_Sub.f k a0 a1 a2 a3) (zelligeref04_Sub.f (k + 1) a0 a1 a2 a3) := by
  intro a0 a1 a2 a3 k
  unfold zelligeref04_Sub.f
  repeat' first
      | (with_reducible exact zelligeref04_Add.mono _ _ _ _ _)
      | (with_reducible exact LeO.refl _)
      | (with_reducible exact LeO.none _)
      | (with_reducible refine LeO.ite ?_ ?_)
      | (with_reducible refine LeO.bind ?_ (fun _ => ?_))
      | exact zelligeref04_Add.mono _ _ _ _ _
      | exact LeO.none _
      | refine LeO.ite ?_ ?_
      | refine LeO.bind ?_ (fun _ => ?_)
def zelligeref04_Cmp.f (k : Nat) (a0_0 : Int) (l0_1 : List Int) (a1_0 : Int) (l1_1 : List Int) : Option (Int) := (zelligeref04_Sub.f k a0_0 l0_1 a1_0 l1_1).bind fun bt760 => (some bt760.1)
theorem zelligeref04_Cmp.mono : ∀ a0 a1 a2 a3 k, LeO (zelligeref04_Cmp.f k a0 a1 a2 a3) (zelligeref04_Cmp.f (k + 1) a0 a1 a2 a3) := by
  intro a0 a1 a2 a3 k
  unfold zelligeref04_Cmp.f
  repeat' first
      | (with_reducible exact zelligeref04_Sub.mono _ _ _ _ _)
      | (with_reducible exact LeO.refl _)
      | (with_reducible exact LeO.none _)
      | (with_reducible refine LeO.ite ?_ ?_)
      | (with_reducible refine LeO.bind ?_ (fun _ => ?_))
      | exact zelligeref04_Sub.mono _ _ _ _ _
      | exact LeO.none _
      | refine LeO.ite ?_ ?_
      | refine LeO.bind ?_ (fun _ => ?_)
mutual
def zelligeref03_DivMod.l0 : Nat → List Int → List Int → List Int → List Int → Int → Option (List Int × List Int)
  | 0, _, _, _, _, _ => none
  | k + 1, x0, x1, x6, x7, x8 => if x8 ≥ 0 then ((zelligeref03_Add.f k x7 x7).bind fun t658 => (if 0 ≤ (wrap64 (Int.tdiv x8 16)) then (if (wrap64 (Int.tdiv x8 16)) < (x0.length : Int) then (if 0 ≤ (IntKind.u64.wrap (Int.tmod x8 16)) then (if (Int.tmod (shr .i64 (rd x0 (wrap64 (Int.tdiv x8 16))) (IntKind.u64.wrap (Int.tmod x8 16))) 2) = 1 then ((zelligeref03_Add.f k t658 (([1] : List Int))).bind fun t665 => (zelligeref03_DivMod.j1 k x0 x1 x6 t665 x8)) else (zelligeref03_DivMod.j1 k x0 x1 x6 t658 x8)) else (none)) else (none)) else (none))) else ((zelligeref03_Trim.f k x6).bind fun t655 => (some (t655, x7)))
def zelligeref03_DivMod.j1 : Nat → List Int → List Int → List Int → List Int → Int → Option (List Int × List Int)
  | 0, _, _, _, _, _ => none
  | k + 1, x0, x1, x6, x7, x8 => (zelligeref03_Cmp.f k x7 x1).bind fun t668 => (if t668 ≥ 0 then ((zelligeref03_Sub.f k x7 x1).bind fun t669 => (if 0 ≤ (wrap64 (Int.tdiv x8 16)) then (if (wrap64 (Int.tdiv x8 16)) < (x6.length : Int) then (if 0 ≤ (IntKind.u64.wrap (Int.tmod x8 16)) then (zelligeref03_DivMod.l0 k x0 x1 (x6.set ((wrap64 (Int.tdiv x8 16)) : Int).toNat (wrap64 ((rd x6 (wrap64 (Int.tdiv x8 16))) + (shl .i64 1 (IntKind.u64.wrap (Int.tmod x8 16)))))) t669 (wrap64 (x8 - 1))) else (none)) else (none)) else (none))) else (zelligeref03_DivMod.l0 k x0 x1 x6 x7 (wrap64 (x8 - 1))))
end
def zelligeref03_DivMod.f (k : Nat) (l0 : List Int) (l1 : List Int) : Option (List Int × List Int) := if 0 ≤ (l0.length : Int) then (if ((l0.length : Int) : Int).toNat ≤ 35184372088832 then (zelligeref03_DivMod.l0 k l0 l1 (List.replicate ((l0.length : Int) : Int).toNat 0) (([] : List Int)) (wrap64 ((wrap64 (16 * (l0.length : Int))) - 1))) else (none)) else (none)
theorem zelligeref03_DivMod.mono_l : ∀ k, (∀ y0 y1 y2 y3 y4, LeO (zelligeref03_DivMod.l0 k y0 y1 y2 y3 y4) (zelligeref03_DivMod.l0 (k + 1) y0 y1 y2 y3 y4)) ∧ (∀ y0 y1 y2 y3 y4, LeO (zelligeref03_DivMod.j1 k y0 y1 y2 y3 y4) (zelligeref03_DivMod.j1 (k + 1) y0 y1 y2 y3 y4))
  | 0 => ⟨fun _ _ _ _ _ r h => by simp [zelligeref03_DivMod.l0] at h, fun _ _ _ _ _ r h => by simp [zelligeref03_DivMod.j1] at h⟩
  | k + 1 => by
    obtain ⟨ih0, ih1⟩ := zelligeref03_DivMod.mono_l k
    refine ⟨?_, ?_⟩
    · intro y0 y1 y2 y3 y4
      unfold zelligeref03_DivMod.l0
      repeat' first
      | (with_reducible exact ih0 _ _ _ _ _)
      | (with_reducible exact ih1 _ _ _ _ _)
      | (with_reducible exact zelligeref03_Add.mono _ _ _)
      | (with_reducible exact zelligeref03_Cmp.mono _ _ _)
      | (with_reducible exact zelligeref03_Sub.mono _ _ _)
      | (with_reducible exact zelligeref03_Trim.mono _ _)
      | (with_reducible exact LeO.refl _)
      | (with_reducible exact LeO.none _)
      | (with_reducible refine LeO.ite ?_ ?_)
      | (with_reducible refine LeO.bind ?_ (fun _ => ?_))
      | exact ih0 _ _ _ _ _
      | exact ih1 _ _ _ _ _
      | exact zelligeref03_Add.mono _ _ _
      | exact zelligeref03_Cmp.mono _ _ _
      | exact zelligeref03_Sub.mono _ _ _
      | exact zelligeref03_Trim.mono _ _
      | exact LeO.none _
      | refine LeO.ite ?_ ?_
      | refine LeO.bind ?_ (fun _ => ?_)
    · intro y0 y1 y2 y3 y4
      unfold zelligeref03_DivMod.j1
      repeat' first
      | (with_reducible exact ih0 _ _ _ _ _)
      | (with_reducible exact ih1 _ _ _ _ _)
      | (with_reducible exact zelligeref03_Add.mono _ _ _)
      | (with_reducible exact zelligeref03_Cmp.mono _ _ _)
      | (with_reducible exact zelligeref03_Sub.mono _ _ _)
      | (with_reducible exact zelligeref03_Trim.mono _ _)
      | (with_reducible exact LeO.refl _)
      | (with_reducible exact LeO.none _)
      | (with_reducible refine LeO.ite ?_ ?_)
      | (with_reducible refine LeO.bind ?_ (fun _ => ?_))
      | exact ih0 _ _ _ _ _
      | exact ih1 _ _ _ _ _
      | exact zelligeref03_Add.mono _ _ _
      | exact zelligeref03_Cmp.mono _ _ _
      | exact zelligeref03_Sub.mono _ _ _
      | exact zelligeref03_Trim.mono _ _
      | exact LeO.none _
      | refine LeO.ite ?_ ?_
      | refine LeO.bind ?_ (fun _ => ?_)
theorem zelligeref03_DivMod.mono : ∀ a0 a1 k, LeO (zelligeref03_DivMod.f k a0 a1) (zelligeref03_DivMod.f (k + 1) a0 a1) := by
  intro a0 a1 k
  obtain ⟨ih0, ih1⟩ := zelligeref03_DivMod.mono_l k
  unfold zelligeref03_DivMod.f
  repeat' first
      | (with_reducible exact ih0 _ _ _ _ _)
      | (with_reducible exact ih1 _ _ _ _ _)
      | (with_reducible exact zelligeref03_Add.mono _ _ _)
      | (with_reducible exact zelligeref03_Cmp.mono _ _ _)
      | (with_reducible exact zelligeref03_Sub.mono _ _ _)
      | (with_reducible exact zelligeref03_Trim.mono _ _)
      | (with_reducible exact LeO.refl _)
      | (with_reducible exact LeO.none _)
      | (with_reducible refine LeO.ite ?_ ?_)
      | (with_reducible refine LeO.bind ?_ (fun _ => ?_))
      | exact ih0 _ _ _ _ _
      | exact ih1 _ _ _ _ _
      | exact zelligeref03_Add.mono _ _ _
      | exact zelligeref03_Cmp.mono _ _ _
      | exact zelligeref03_Sub.mono _ _ _
      | exact zelligeref03_Trim.mono _ _
      | exact LeO.none _
      | refine LeO.ite ?_ ?_
      | refine LeO.bind ?_ (fun _ => ?_)
def zelligeref04_Floor.j0 : Nat → Bool → Int → List Int → Int → List Int → Int → List Int → Option (Int × List Int × Int × List Int)
  | 0, _, _, _, _, _, _, _ => none
  | k + 1, x34, x686000, x686001, x687000, x687001, x700000, x700001 => if x34 = true then ((zelligeref04_Long.f k 1).bind fun bt700 => ((zelligeref04_Sub.f k x700000 x700001 bt700.1 bt700.2).bind fun bt704 => ((zelligeref04_Mul.f k bt704.1 bt704.2 x687000 x687001).bind fun bt708 => ((zelligeref04_Sub.f k x686000 x686001 bt708.1 bt708.2).bind fun bt712 => (some (bt704.1, bt704.2, bt712.1, bt712.2)))))) else ((zelligeref04_Mul.f k x700000 x700001 x687000 x687001).bind fun bt716 => ((zelligeref04_Sub.f k x686000 x686001 bt716.1 bt716.2).bind fun bt720 => (some (x700000, x700001, bt720.1, bt720.2))))
def zelligeref04_Floor.f (k : Nat) (a0_0 : Int) (l0_1 : List Int) (a1_0 : Int) (l1_1 : List Int) : Option (Int × List Int × Int × List Int) := (zelligeref03_DivMod.f k l0_1 l1_1).bind fun bt689 => ((zelligeref04_make1.f (wrap64 (a0_0 * a1_0)) bt689.1).bind fun bt695 => (if (wrap64 (a0_0 * a1_0)) < 0 then (zelligeref04_Floor.j0 k (decide ((bt689.2.length : Int) > 0)) a0_0 l0_1 a1_0 l1_1 bt695.1 bt695.2) else (zelligeref04_Floor.j0 k false a0_0 l0_1 a1_0 l1_1 bt695.1 bt695.2)))
theorem zelligeref04_Floor.mono_l : ∀ k, (∀ y0 y1 y2 y3 y4 y5 y6, LeO (zelligeref04_Floor.j0 k y0 y1 y2 y3 y4 y5 y6) (zelligeref04_Floor.j0 (k + 1) y0 y1 y2 y3 y4 y5 y6))
  | 0 => fun _ _ _ _ _ _ _ r h => by simp [zelligeref04_Floor.j0] at h
  | k + 1 => by
    have ih0 := zelligeref04_Floor.mono_l k
    · intro y0 y1 y2 y3 y4 y5 y6
      unfold zelligeref04_Floor.j0
      repeat' first
      | (with_reducible exact ih0 _ _ _ _ _ _ _)
      | (with_reducible exact zelligeref03_DivMod.mono _ _ _)
      | (with_reducible exact zelligeref04_Long.mono _ _)
      | (with_reducible exact zelligeref04_Mul.mono _ _ _ _ _)
      | (with_reducible exact zelligeref04_Sub.mono _ _ _ _ _)
      | (with_reducible exact LeO.refl _)
      | (with_reducible exact LeO.none _)
      | (with_reducible refine LeO.ite ?_ ?_)
      | (with_reducible refine LeO.bind ?_ (fun _ => ?_))
      | exact ih0 _ _ _ _ _ _ _
      | exact zelligeref03_DivMod.mono _ _ _
      | exact zelligeref04_Long.mono _ _
      | exact zelligeref04_Mul.mono _ _ _ _ _
      | exact zelligeref04_Sub.mono _ _ _ _ _
      | exact LeO.none _
      | refine LeO.ite ?_ ?_
      | refine LeO.bind ?_ (fun _ => ?_)
theorem zelligeref04_Floor.mono : ∀ a0 a1 a2 a3 k, LeO (zelligeref04_Floor.f k a0 a1 a2 a3) (zelligeref04_Floor.f (k + 1) a0 a1 a2 a3) := by
  intro a0 a1 a2 a3 k
  have ih0 := zelligeref04_Floor.mono_l k
  unfold zelligeref04_Floor.f
  repeat' first
      | (with_reducible exact ih0 _ _ _ _ _ _ _)
      | (with_reducible exact zelligeref03_DivMod.mono _ _ _)
      | (with_reducible exact zelligeref04_Long.mono _ _)
      | (with_reducible exact zelligeref04_Mul.mono _ _ _ _ _)
      | (with_reducible exact zelligeref04_Sub.mono _ _ _ _ _)
      | (with_reducible exact LeO.refl _)
      | (with_reducible exact LeO.none _)
      | (with_reducible refine LeO.ite ?_ ?_)
      | (with_reducible refine LeO.bind ?_ (fun _ => ?_))
      | exact ih0 _ _ _ _ _ _ _
      | exact zelligeref03_DivMod.mono _ _ _
      | exact zelligeref04_Long.mono _ _
      | exact zelligeref04_Mul.mono _ _ _ _ _
      | exact zelligeref04_Sub.mono _ _ _ _ _
      | exact LeO.none _
      | refine LeO.ite ?_ ?_
      | refine LeO.bind ?_ (fun _ => ?_)
mutual
def zelligeref03_Show.l0 : Nat → List Int → ByteArray → Option (ByteArray)
  | 0, _, _ => none
  | k + 1, x3, x4 => if (x3.length : Int) > 0 then (zelligeref03_Show.j1 k x3 x4 true) else (zelligeref03_Show.j1 k x3 x4 (x4.toList == ([] : List UInt8)))
def zelligeref03_Show.j1 : Nat → List Int → ByteArray → Bool → Option (ByteArray)
  | 0, _, _, _ => none
  | k + 1, x3, x4, x16 => if x16 = true then (zelligeref03_Show.l1 k x3 x4 0 (wrap64 ((x3.length : Int) - 1))) else (some x4)
def zelligeref03_Show.l1 : Nat → List Int → ByteArray → Int → Int → Option (ByteArray)
  | 0, _, _, _, _ => none
  | k + 1, x3, x4, x5, x6 => if x6 ≥ 0 then (if 0 ≤ x6 then (if x6 < (x3.length : Int) then (zelligeref03_Show.l1 k (x3.set (x6 : Int).toNat (wrap64 (Int.tdiv (wrap64 ((wrap64 (x5 * 65536)) + (rd x3 x6))) 10))) x4 (Int.tmod (wrap64 ((wrap64 (x5 * 65536)) + (rd x3 x6))) 10) (wrap64 (x6 - 1))) else (none)) else (none)) else ((zelligeref03_Trim.f k x3).bind fun t1279 => (if 0 ≤ x5 then (if x5 ≤ (wrap64 (x5 + 1)) then (if (wrap64 (x5 + 1)) ≤ 10 then (if ((⟨#[48, 49, 50, 51, 52, 53, 54, 55, 56, 57]⟩ : ByteArray).extract (x5 : Int).toNat ((wrap64 (x5 + 1)) : Int).toNat).size + x4.size ≤ 9223372036854775807 then (zelligeref03_Show.l0 k t1279 (((⟨#[48, 49, 50, 51, 52, 53, 54, 55, 56, 57]⟩ : ByteArray).extract (x5 : Int).toNat ((wrap64 (x5 + 1)) : Int).toNat) ++ x4)) else (none)) else (none)) else (none)) else (none)))
end
def zelligeref03_Show.f (k : Nat) (l0 : List Int) : Option (ByteArray) := (some (([] : List Int) : List Int)).bind fun y1271 => (if y1271.length + l0.length < 17592186044416 then (zelligeref03_Show.l0 k (y1271 ++ l0) (⟨#[]⟩ : ByteArray)) else (none))
theorem zelligeref03_Show.mono_l : ∀ k, (∀ y0 y1, LeO (zelligeref03_Show.l0 k y0 y1) (zelligeref03_Show.l0 (k + 1) y0 y1)) ∧ (∀ y0 y1 y2, LeO (zelligeref03_Show.j1 k y0 y1 y2) (zelligeref03_Show.j1 (k + 1) y0 y1 y2)) ∧ (∀ y0 y1 y2 y3, LeO (zelligeref03_Show.l1 k y0 y1 y2 y3) (zelligeref03_Show.l1 (k + 1) y0 y1 y2 y3))
  | 0 => ⟨fun _ _ r h => by simp [zelligeref03_Show.l0] at h, fun _ _ _ r h => by simp [zelligeref03_Show.j1] at h, fun _ _ _ _ r h => by simp [zelligeref03_Show.l1] at h⟩
  | k + 1 => by
    obtain ⟨ih0, ih1, ih2⟩ := zelligeref03_Show.mono_l k
    refine ⟨?_, ?_, ?_⟩
    · intro y0 y1
      unfold zelligeref03_Show.l0
      repeat' first
      | (with_reducible exact ih0 _ _)
      | (with_reducible exact ih1 _ _ _)
      | (with_reducible exact ih2 _ _ _ _)
      | (with_reducible exact zelligeref03_Trim.mono _ _)
      | (with_reducible exact LeO.refl _)
      | (with_reducible exact LeO.none _)
      | (with_reducible refine LeO.ite ?_ ?_)
      | (with_reducible refine LeO.bind ?_ (fun _ => ?_))
      | exact ih0 _ _
      | exact ih1 _ _ _
      | exact ih2 _ _ _ _
      | exact zelligeref03_Trim.mono _ _
      | exact LeO.none _
      | refine LeO.ite ?_ ?_
      | refine LeO.bind ?_ (fun _ => ?_)
    · intro y0 y1 y2
      unfold zelligeref03_Show.j1
      repeat' first
      | (with_reducible exact ih0 _ _)
      | (with_reducible exact ih1 _ _ _)
      | (with_reducible exact ih2 _ _ _ _)
      | (with_reducible exact zelligeref03_Trim.mono _ _)
      | (with_reducible exact LeO.refl _)
      | (with_reducible exact LeO.none _)
      | (with_reducible refine LeO.ite ?_ ?_)
      | (with_reducible refine LeO.bind ?_ (fun _ => ?_))
      | exact ih0 _ _
      | exact ih1 _ _ _
      | exact ih2 _ _ _ _
      | exact zelligeref03_Trim.mono _ _
      | exact LeO.none _
      | refine LeO.ite ?_ ?_
      | refine LeO.bind ?_ (fun _ => ?_)
    · intro y0 y1 y2 y3
      unfold zelligeref03_Show.l1
      repeat' first
      | (with_reducible exact ih0 _ _)
      | (with_reducible exact ih1 _ _ _)
      | (with_reducible exact ih2 _ _ _ _)
      | (with_reducible exact zelligeref03_Trim.mono _ _)
      | (with_reducible exact LeO.refl _)
      | (with_reducible exact LeO.none _)
      | (with_reducible refine LeO.ite ?_ ?_)
      | (with_reducible refine LeO.bind ?_ (fun _ => ?_))
      | exact ih0 _ _
      | exact ih1 _ _ _
      | exact ih2 _ _ _ _
      | exact zelligeref03_Trim.mono _ _
      | exact LeO.none _
      | refine LeO.ite ?_ ?_
      | refine LeO.bind ?_ (fun _ => ?_)
theorem zelligeref03_Show.mono : ∀ a0 k, LeO (zelligeref03_Show.f k a0) (zelligeref03_Show.f (k + 1) a0) := by
  intro a0 k
  obtain ⟨ih0, ih1, ih2⟩ := zelligeref03_Show.mono_l k
  unfold zelligeref03_Show.f
  repeat' first
      | (with_reducible exact ih0 _ _)
      | (with_reducible exact ih1 _ _ _)
      | (with_reducible exact ih2 _ _ _ _)
      | (with_reducible exact zelligeref03_Trim.mono _ _)
      | (with_reducible exact LeO.refl _)
      | (with_reducible exact LeO.none _)
      | (with_reducible refine LeO.ite ?_ ?_)
      | (with_reducible refine LeO.bind ?_ (fun _ => ?_))
      | exact ih0 _ _
      | exact ih1 _ _ _
      | exact ih2 _ _ _ _
      | exact zelligeref03_Trim.mono _ _
      | exact LeO.none _
      | refine LeO.ite ?_ ?_
      | refine LeO.bind ?_ (fun _ => ?_)
def zelligeref04_Show.f (k : Nat) (a0_0 : Int) (l0_1 : List Int) : Option (ByteArray) := if a0_0 < 0 then ((zelligeref03_Show.f k l0_1).bind fun t1283 => (if 1 + t1283.size ≤ 9223372036854775807 then (some ((⟨#[45]⟩ : ByteArray) ++ t1283)) else (none))) else ((zelligeref03_Show.f k l0_1).bind fun t1284 => (some t1284))
theorem zelligeref04_Show.mono : ∀ a0 a1 k, LeO (zelligeref04_Show.f k a0 a1) (zelligeref04_Show.f (k + 1) a0 a1) := by
  intro a0 a1 k
  unfold zelligeref04_Show.f
  repeat' first
      | (with_reducible exact zelligeref03_Show.mono _ _)
      | (with_reducible exact LeO.refl _)
      | (with_reducible exact LeO.none _)
      | (with_reducible refine LeO.ite ?_ ?_)
      | (with_reducible refine LeO.bind ?_ (fun _ => ?_))
      | exact zelligeref03_Show.mono _ _
      | exact LeO.none _
      | refine LeO.ite ?_ ?_
      | refine LeO.bind ?_ (fun _ => ?_)
def zelligeref03_Half.l0 : Nat → List Int → List Int → Int → Int → Option (List Int)
  | 0, _, _, _, _ => none
  | k + 1, x0, x3, x4, x5 => if x5 ≥ 0 then (if 0 ≤ x5 then (if x5 < (x0.length : Int) then (if x5 < (x3.length : Int) then (zelligeref03_Half.l0 k x0 (x3.set (x5 : Int).toNat (wrap64 (Int.tdiv (wrap64 ((wrap64 (x4 * 65536)) + (rd x0 x5))) 2))) (Int.tmod (wrap64 ((wrap64 (x4 * 65536)) + (rd x0 x5))) 2) (wrap64 (x5 - 1))) else (none)) else (none)) else (none)) else ((zelligeref03_Trim.f k x3).bind fun t886 => (some t886))
def zelligeref03_Half.f (k : Nat) (l0 : List Int) : Option (List Int) := if 0 ≤ (l0.length : Int) then (if ((l0.length : Int) : Int).toNat ≤ 35184372088832 then (zelligeref03_Half.l0 k l0 (List.replicate ((l0.length : Int) : Int).toNat 0) 0 (wrap64 ((l0.length : Int) - 1))) else (none)) else (none)
theorem zelligeref03_Half.mono_l : ∀ k, (∀ y0 y1 y2 y3, LeO (zelligeref03_Half.l0 k y0 y1 y2 y3) (zelligeref03_Half.l0 (k + 1) y0 y1 y2 y3))
  | 0 => fun _ _ _ _ r h => by simp [zelligeref03_Half.l0] at h
  | k + 1 => by
    have ih0 := zelligeref03_Half.mono_l k
    · intro y0 y1 y2 y3
      unfold zelligeref03_Half.l0
      repeat' first
      | (with_reducible exact ih0 _ _ _ _)
      | (with_reducible exact zelligeref03_Trim.mono _ _)
      | (with_reducible exact LeO.refl _)
      | (with_reducible exact LeO.none _)
      | (with_reducible refine LeO.ite ?_ ?_)
      | (with_reducible refine LeO.bind ?_ (fun _ => ?_))
      | exact ih0 _ _ _ _
      | exact zelligeref03_Trim.mono _ _
      | exact LeO.none _
      | refine LeO.ite ?_ ?_
      | refine LeO.bind ?_ (fun _ => ?_)
theorem zelligeref03_Half.mono : ∀ a0 k, LeO (zelligeref03_Half.f k a0) (zelligeref03_Half.f (k + 1) a0) := by
  intro a0 k
  have ih0 := zelligeref03_Half.mono_l k
  unfold zelligeref03_Half.f
  repeat' first
      | (with_reducible exact ih0 _ _ _ _)
      | (with_reducible exact zelligeref03_Trim.mono _ _)
      | (with_reducible exact LeO.refl _)
      | (with_reducible exact LeO.none _)
      | (with_reducible refine LeO.ite ?_ ?_)
      | (with_reducible refine LeO.bind ?_ (fun _ => ?_))
      | exact ih0 _ _ _ _
      | exact zelligeref03_Trim.mono _ _
      | exact LeO.none _
      | refine LeO.ite ?_ ?_
      | refine LeO.bind ?_ (fun _ => ?_)
mutual
def zelligeref03_Gcd.l0 : Nat → List Int → List Int → List Int → Int → Option (List Int)
  | 0, _, _, _, _ => none
  | k + 1, x5, x6, x7, x8 => if 0 < (x6.length : Int) then (if (Int.tmod (rd x6 0) 2) = 0 then (if 0 < (x7.length : Int) then (zelligeref03_Gcd.j1 k x5 x6 x7 x8 ((Int.tmod (rd x7 0) 2) == 0)) else (none)) else (zelligeref03_Gcd.j1 k x5 x6 x7 x8 false)) else (none)
def zelligeref03_Gcd.j1 : Nat → List Int → List Int → List Int → Int → Bool → Option (List Int)
  | 0, _, _, _, _, _ => none
  | k + 1, x5, x6, x7, x8, x32 => if x32 = true then ((zelligeref03_Half.f k x6).bind fun t894 => ((zelligeref03_Half.f k x7).bind fun t897 => (zelligeref03_Gcd.l0 k x5 t894 t897 (wrap64 (x8 + 1))))) else (zelligeref03_Gcd.l1 k x5 x6 x7 x8)
def zelligeref03_Gcd.l1 : Nat → List Int → List Int → List Int → Int → Option (List Int)
  | 0, _, _, _, _ => none
  | k + 1, x5, x6, x7, x8 => if (x6.length : Int) > 0 then (zelligeref03_Gcd.l2 k x5 x6 x7 x8) else (zelligeref03_Gcd.l4 k x5 x7 x8 0)
def zelligeref03_Gcd.l2 : Nat → List Int → List Int → List Int → Int → Option (List Int)
  | 0, _, _, _, _ => none
  | k + 1, x5, x6, x7, x8 => if 0 < (x6.length : Int) then (if (Int.tmod (rd x6 0) 2) = 0 then ((zelligeref03_Half.f k x6).bind fun t901 => (zelligeref03_Gcd.l2 k x5 t901 x7 x8)) else (zelligeref03_Gcd.l3 k x5 x6 x7 x8)) else (none)
def zelligeref03_Gcd.l3 : Nat → List Int → List Int → List Int → Int → Option (List Int)
  | 0, _, _, _, _ => none
  | k + 1, x5, x6, x7, x8 => if 0 < (x7.length : Int) then (if (Int.tmod (rd x7 0) 2) = 0 then ((zelligeref03_Half.f k x7).bind fun t905 => (zelligeref03_Gcd.l3 k x5 x6 t905 x8)) else ((zelligeref03_Cmp.f k x6 x7).bind fun t908 => (if t908 < 0 then ((zelligeref03_Sub.f k x7 x6).bind fun t909 => (zelligeref03_Gcd.l1 k x5 t909 x6 x8)) else ((zelligeref03_Sub.f k x6 x7).bind fun t912 => (zelligeref03_Gcd.l1 k x5 t912 x7 x8))))) else (none)
def zelligeref03_Gcd.l4 : Nat → List Int → List Int → Int → Int → Option (List Int)
  | 0, _, _, _, _ => none
  | k + 1, x5, x7, x8, x9 => if x9 < x8 then ((zelligeref03_Add.f k x5 x5).bind fun t915 => (zelligeref03_Gcd.l4 k t915 x7 x8 (wrap64 (x9 + 1)))) else ((zelligeref03_Mul.f k x7 x5).bind fun t918 => (some t918))
end
def zelligeref03_Gcd.f (k : Nat) (l0 : List Int) (l1 : List Int) : Option (List Int) := if (l0.length : Int) = 0 then (some l1) else (if (l1.length : Int) = 0 then (some l0) else (zelligeref03_Gcd.l0 k (([1] : List Int)) l0 l1 0))
theorem zelligeref03_Gcd.mono_l : ∀ k, (∀ y0 y1 y2 y3, LeO (zelligeref03_Gcd.l0 k y0 y1 y2 y3) (zelligeref03_Gcd.l0 (k + 1) y0 y1 y2 y3)) ∧ (∀ y0 y1 y2 y3 y4, LeO (zelligeref03_Gcd.j1 k y0 y1 y2 y3 y4) (zelligeref03_Gcd.j1 (k + 1) y0 y1 y2 y3 y4)) ∧ (∀ y0 y1 y2 y3, LeO (zelligeref03_Gcd.l1 k y0 y1 y2 y3) (zelligeref03_Gcd.l1 (k + 1) y0 y1 y2 y3)) ∧ (∀ y0 y1 y2 y3, LeO (zelligeref03_Gcd.l2 k y0 y1 y2 y3) (zelligeref03_Gcd.l2 (k + 1) y0 y1 y2 y3)) ∧ (∀ y0 y1 y2 y3, LeO (zelligeref03_Gcd.l3 k y0 y1 y2 y3) (zelligeref03_Gcd.l3 (k + 1) y0 y1 y2 y3)) ∧ (∀ y0 y1 y2 y3, LeO (zelligeref03_Gcd.l4 k y0 y1 y2 y3) (zelligeref03_Gcd.l4 (k + 1) y0 y1 y2 y3))
  | 0 => ⟨fun _ _ _ _ r h => by simp [zelligeref03_Gcd.l0] at h, fun _ _ _ _ _ r h => by simp [zelligeref03_Gcd.j1] at h, fun _ _ _ _ r h => by simp [zelligeref03_Gcd.l1] at h, fun _ _ _ _ r h => by simp [zelligeref03_Gcd.l2] at h, fun _ _ _ _ r h => by simp [zelligeref03_Gcd.l3] at h, fun _ _ _ _ r h => by simp [zelligeref03_Gcd.l4] at h⟩
  | k + 1 => by
    obtain ⟨ih0, ih1, ih2, ih3, ih4, ih5⟩ := zelligeref03_Gcd.mono_l k
    refine ⟨?_, ?_, ?_, ?_, ?_, ?_⟩
    · intro y0 y1 y2 y3
      unfold zelligeref03_Gcd.l0
      repeat' first
      | (with_reducible exact ih0 _ _ _ _)
      | (with_reducible exact ih1 _ _ _ _ _)
      | (with_reducible exact ih2 _ _ _ _)
      | (with_reducible exact ih3 _ _ _ _)
      | (with_reducible exact ih4 _ _ _ _)
      | (with_reducible exact ih5 _ _ _ _)
      | (with_reducible exact zelligeref03_Add.mono _ _ _)
      | (with_reducible exact zelligeref03_Cmp.mono _ _ _)
      | (with_reducible exact zelligeref03_Half.mono _ _)
      | (with_reducible exact zelligeref03_Mul.mono _ _ _)
      | (with_reducible exact zelligeref03_Sub.mono _ _ _)
      | (with_reducible exact LeO.refl _)
      | (with_reducible exact LeO.none _)
      | (with_reducible refine LeO.ite ?_ ?_)
      | (with_reducible refine LeO.bind ?_ (fun _ => ?_))
      | exact ih0 _ _ _ _
      | exact ih1 _ _ _ _ _
      | exact ih2 _ _ _ _
      | exact ih3 _ _ _ _
      | exact ih4 _ _ _ _
      | exact ih5 _ _ _ _
      | exact zelligeref03_Add.mono _ _ _
      | exact zelligeref03_Cmp.mono _ _ _
      | exact zelligeref03_Half.mono _ _
      | exact zelligeref03_Mul.mono _ _ _
      | exact zelligeref03_Sub.mono _ _ _
      | exact LeO.none _
      | refine LeO.ite ?_ ?_
      | refine LeO.bind ?_ (fun _ => ?_)
    · intro y0 y1 y2 y3 y4
      unfold zelligeref03_Gcd.j1
      repeat' first
      | (with_reducible exact ih0 _ _ _ _)
      | (with_reducible exact ih1 _ _ _ _ _)
      | (with_reducible exact ih2 _ _ _ _)
      | (with_reducible exact ih3 _ _ _ _)
      | (with_reducible exact ih4 _ _ _ _)
      | (with_reducible exact ih5 _ _ _ _)
      | (with_reducible exact zelligeref03_Add.mono _ _ _)
      | (with_reducible exact zelligeref03_Cmp.mono _ _ _)
      | (with_reducible exact zelligeref03_Half.mono _ _)
      | (with_reducible exact zelligeref03_Mul.mono _ _ _)
      | (with_reducible exact zelligeref03_Sub.mono _ _ _)
      | (with_reducible exact LeO.refl _)
      | (with_reducible exact LeO.none _)
      | (with_reducible refine LeO.ite ?_ ?_)
      | (with_reducible refine LeO.bind ?_ (fun _ => ?_))
      | exact ih0 _ _ _ _
      | exact ih1 _ _ _ _ _
      | exact ih2 _ _ _ _
      | exact ih3 _ _ _ _
      | exact ih4 _ _ _ _
      | exact ih5 _ _ _ _
      | exact zelligeref03_Add.mono _ _ _
      | exact zelligeref03_Cmp.mono _ _ _
      | exact zelligeref03_Half.mono _ _
      | exact zelligeref03_Mul.mono _ _ _
      | exact zelligeref03_Sub.mono _ _ _
      | exact LeO.none _
      | refine LeO.ite ?_ ?_
      | refine LeO.bind ?_ (fun _ => ?_)
    · intro y0 y1 y2 y3
      unfold zelligeref03_Gcd.l1
      repeat' first
      | (with_reducible exact ih0 _ _ _ _)
      | (with_reducible exact ih1 _ _ _ _ _)
      | (with_reducible exact ih2 _ _ _ _)
      | (with_reducible exact ih3 _ _ _ _)
      | (with_reducible exact ih4 _ _ _ _)
      | (with_reducible exact ih5 _ _ _ _)
      | (with_reducible exact zelligeref03_Add.mono _ _ _)
      | (with_reducible exact zelligeref03_Cmp.mono _ _ _)
      | (with_reducible exact zelligeref03_Half.mono _ _)
      | (with_reducible exact zelligeref03_Mul.mono _ _ _)
      | (with_reducible exact zelligeref03_Sub.mono _ _ _)
      | (with_reducible exact LeO.refl _)
      | (with_reducible exact LeO.none _)
      | (with_reducible refine LeO.ite ?_ ?_)
      | (with_reducible refine LeO.bind ?_ (fun _ => ?_))
      | exact ih0 _ _ _ _
      | exact ih1 _ _ _ _ _
      | exact ih2 _ _ _ _
      | exact ih3 _ _ _ _
      | exact ih4 _ _ _ _
      | exact ih5 _ _ _ _
      | exact zelligeref03_Add.mono _ _ _
      | exact zelligeref03_Cmp.mono _ _ _
      | exact zelligeref03_Half.mono _ _
      | exact zelligeref03_Mul.mono _ _ _
      | exact zelligeref03_Sub.mono _ _ _
      | exact LeO.none _
      | refine LeO.ite ?_ ?_
      | refine LeO.bind ?_ (fun _ => ?_)
    · intro y0 y1 y2 y3
      unfold zelligeref03_Gcd.l2
      repeat' first
      | (with_reducible exact ih0 _ _ _ _)
      | (with_reducible exact ih1 _ _ _ _ _)
      | (with_reducible exact ih2 _ _ _ _)
      | (with_reducible exact ih3 _ _ _ _)
      | (with_reducible exact ih4 _ _ _ _)
      | (with_reducible exact ih5 _ _ _ _)
      | (with_reducible exact zelligeref03_Add.mono _ _ _)
      | (with_reducible exact zelligeref03_Cmp.mono _ _ _)
      | (with_reducible exact zelligeref03_Half.mono _ _)
      | (with_reducible exact zelligeref03_Mul.mono _ _ _)
      | (with_reducible exact zelligeref03_Sub.mono _ _ _)
      | (with_reducible exact LeO.refl _)
      | (with_reducible exact LeO.none _)
      | (with_reducible refine LeO.ite ?_ ?_)
      | (with_reducible refine LeO.bind ?_ (fun _ => ?_))
      | exact ih0 _ _ _ _
      | exact ih1 _ _ _ _ _
      | exact ih2 _ _ _ _
      | exact ih3 _ _ _ _
      | exact ih4 _ _ _ _
      | exact ih5 _ _ _ _
      | exact zelligeref03_Add.mono _ _ _
      | exact zelligeref03_Cmp.mono _ _ _
      | exact zelligeref03_Half.mono _ _
      | exact zelligeref03_Mul.mono _ _ _
      | exact zelligeref03_Sub.mono _ _ _
      | exact LeO.none _
      | refine LeO.ite ?_ ?_
      | refine LeO.bind ?_ (fun _ => ?_)
    · intro y0 y1 y2 y3
      unfold zelligeref03_Gcd.l3
      repeat' first
      | (with_reducible exact ih0 _ _ _ _)
      | (with_reducible exact ih1 _ _ _ _ _)
      | (with_reducible exact ih2 _ _ _ _)
      | (with_reducible exact ih3 _ _ _ _)
      | (with_reducible exact ih4 _ _ _ _)
      | (with_reducible exact ih5 _ _ _ _)
      | (with_reducible exact zelligeref03_Add.mono _ _ _)
      | (with_reducible exact zelligeref03_Cmp.mono _ _ _)
      | (with_reducible exact zelligeref03_Half.mono _ _)
      | (with_reducible exact zelligeref03_Mul.mono _ _ _)
      | (with_reducible exact zelligeref03_Sub.mono _ _ _)
      | (with_reducible exact LeO.refl _)
      | (with_reducible exact LeO.none _)
      | (with_reducible refine LeO.ite ?_ ?_)
      | (with_reducible refine LeO.bind ?_ (fun _ => ?_))
      | exact ih0 _ _ _ _
      | exact ih1 _ _ _ _ _
      | exact ih2 _ _ _ _
      | exact ih3 _ _ _ _
      | exact ih4 _ _ _ _
      | exact ih5 _ _ _ _
      | exact zelligeref03_Add.mono _ _ _
      | exact zelligeref03_Cmp.mono _ _ _
      | exact zelligeref03_Half.mono _ _
      | exact zelligeref03_Mul.mono _ _ _
      | exact zelligeref03_Sub.mono _ _ _
      | exact LeO.none _
      | refine LeO.ite ?_ ?_
      | refine LeO.bind ?_ (fun _ => ?_)
    · intro y0 y1 y2 y3
      unfold zelligeref03_Gcd.l4
      repeat' first
      | (with_reducible exact ih0 _ _ _ _)
      | (with_reducible exact ih1 _ _ _ _ _)
      | (with_reducible exact ih2 _ _ _ _)
      | (with_reducible exact ih3 _ _ _ _)
      | (with_reducible exact ih4 _ _ _ _)
      | (with_reducible exact ih5 _ _ _ _)
      | (with_reducible exact zelligeref03_Add.mono _ _ _)
      | (with_reducible exact zelligeref03_Cmp.mono _ _ _)
      | (with_reducible exact zelligeref03_Half.mono _ _)
      | (with_reducible exact zelligeref03_Mul.mono _ _ _)
      | (with_reducible exact zelligeref03_Sub.mono _ _ _)
      | (with_reducible exact LeO.refl _)
      | (with_reducible exact LeO.none _)
      | (with_reducible refine LeO.ite ?_ ?_)
      | (with_reducible refine LeO.bind ?_ (fun _ => ?_))
      | exact ih0 _ _ _ _
      | exact ih1 _ _ _ _ _
      | exact ih2 _ _ _ _
      | exact ih3 _ _ _ _
      | exact ih4 _ _ _ _
      | exact ih5 _ _ _ _
      | exact zelligeref03_Add.mono _ _ _
      | exact zelligeref03_Cmp.mono _ _ _
      | exact zelligeref03_Half.mono _ _
      | exact zelligeref03_Mul.mono _ _ _
      | exact zelligeref03_Sub.mono _ _ _
      | exact LeO.none _
      | refine LeO.ite ?_ ?_
      | refine LeO.bind ?_ (fun _ => ?_)
theorem zelligeref03_Gcd.mono : ∀ a0 a1 k, LeO (zelligeref03_Gcd.f k a0 a1) (zelligeref03_Gcd.f (k + 1) a0 a1) := by
  intro a0 a1 k
  obtain ⟨ih0, ih1, ih2, ih3, ih4, ih5⟩ := zelligeref03_Gcd.mono_l k
  unfold zelligeref03_Gcd.f
  repeat' first
      | (with_reducible exact ih0 _ _ _ _)
      | (with_reducible exact ih1 _ _ _ _ _)
      | (with_reducible exact ih2 _ _ _ _)
      | (with_reducible exact ih3 _ _ _ _)
      | (with_reducible exact ih4 _ _ _ _)
      | (with_reducible exact ih5 _ _ _ _)
      | (with_reducible exact zelligeref03_Add.mono _ _ _)
      | (with_reducible exact zelligeref03_Cmp.mono _ _ _)
      | (with_reducible exact zelligeref03_Half.mono _ _)
      | (with_reducible exact zelligeref03_Mul.mono _ _ _)
      | (with_reducible exact zelligeref03_Sub.mono _ _ _)
      | (with_reducible exact LeO.refl _)
      | (with_reducible exact LeO.none _)
      | (with_reducible refine LeO.ite ?_ ?_)
      | (with_reducible refine LeO.bind ?_ (fun _ => ?_))
      | exact ih0 _ _ _ _
      | exact ih1 _ _ _ _ _
      | exact ih2 _ _ _ _
      | exact ih3 _ _ _ _
      | exact ih4 _ _ _ _
      | exact ih5 _ _ _ _
      | exact zelligeref03_Add.mono _ _ _
      | exact zelligeref03_Cmp.mono _ _ _
      | exact zelligeref03_Half.mono _ _
      | exact zelligeref03_Mul.mono _ _ _
      | exact zelligeref03_Sub.mono _ _ _
      | exact LeO.none _
      | refine LeO.ite ?_ ?_
      | refine LeO.bind ?_ (fun _ => ?_)
mutual
def zelligeref03_Parse.l0 : Nat → ByteArray → List Int → Int → Option (List Int × Int)
  | 0, _, _, _ => none
  | k + 1, x0, x4, x5 => if x5 < (x0.size : Int) then (if 0 ≤ x5 then (if (bt x0 x5) < 48 then (some ((([] : List Int)), 4)) else (if (bt x0 x5) > 57 then (some ((([] : List Int)), 4)) else (zelligeref03_Parse.l0 k x0 x4 (wrap64 (x5 + 1))))) else (none)) else (if x0.toList = ([] : List UInt8) then (zelligeref03_Parse.j1 k x0 x4 true) else (if 0 < (x0.size : Int) then (if (bt x0 0) = 48 then (zelligeref03_Parse.j1 k x0 x4 (decide ((x0.size : Int) > 1))) else (zelligeref03_Parse.j1 k x0 x4 false)) else (none)))
def zelligeref03_Parse.j1 : Nat → ByteArray → List Int → Bool → Option (List Int × Int)
  | 0, _, _, _ => none
  | k + 1, x0, x4, x36 => if x36 = true then (some ((([] : List Int)), 4)) else (if (x0.size : Int) > 2000 then (some ((([] : List Int)), 5)) else (zelligeref03_Parse.l1 k x0 x4 0))
def zelligeref03_Parse.l1 : Nat → ByteArray → List Int → Int → Option (List Int × Int)
  | 0, _, _, _ => none
  | k + 1, x0, x4, x6 => if x6 < (x0.size : Int) then ((zelligeref03_Mul.f k x4 (([10] : List Int))).bind fun t1321 => (if 0 ≤ x6 then ((zelligeref03_Trim.f k (([((bt x0 x6) - 48) % 256] : List Int))).bind fun t1327 => ((zelligeref03_Add.f k t1321 t1327).bind fun t1330 => (zelligeref03_Parse.l1 k x0 t1330 (wrap64 (x6 + 1))))) else (none))) else (some (x4, 0))
end
def zelligeref03_Parse.f (k : Nat) (a0 : ByteArray) : Option (List Int × Int) := zelligeref03_Parse.l0 k a0 (([] : List Int)) 0
theorem zelligeref03_Parse.mono_l : ∀ k, (∀ y0 y1 y2, LeO (zelligeref03_Parse.l0 k y0 y1 y2) (zelligeref03_Parse.l0 (k + 1) y0 y1 y2)) ∧ (∀ y0 y1 y2, LeO (zelligeref03_Parse.j1 k y0 y1 y2) (zelligeref03_Parse.j1 (k + 1) y0 y1 y2)) ∧ (∀ y0 y1 y2, LeO (zelligeref03_Parse.l1 k y0 y1 y2) (zelligeref03_Parse.l1 (k + 1) y0 y1 y2))
  | 0 => ⟨fun _ _ _ r h => by simp [zelligeref03_Parse.l0] at h, fun _ _ _ r h => by simp [zelligeref03_Parse.j1] at h, fun _ _ _ r h => by simp [zelligeref03_Parse.l1] at h⟩
  | k + 1 => by
    obtain ⟨ih0, ih1, ih2⟩ := zelligeref03_Parse.mono_l k
    refine ⟨?_, ?_, ?_⟩
    · intro y0 y1 y2
      unfold zelligeref03_Parse.l0
      repeat' first
      | (with_reducible exact ih0 _ _ _)
      | (with_reducible exact ih1 _ _ _)
      | (with_reducible exact ih2 _ _ _)
      | (with_reducible exact zelligeref03_Add.mono _ _ _)
      | (with_reducible exact zelligeref03_Mul.mono _ _ _)
      | (with_reducible exact zelligeref03_Trim.mono _ _)
      | (with_reducible exact LeO.refl _)
      | (with_reducible exact LeO.none _)
      | (with_reducible refine LeO.ite ?_ ?_)
      | (with_reducible refine LeO.bind ?_ (fun _ => ?_))
      | exact ih0 _ _ _
      | exact ih1 _ _ _
      | exact ih2 _ _ _
      | exact zelligeref03_Add.mono _ _ _
      | exact zelligeref03_Mul.mono _ _ _
      | exact zelligeref03_Trim.mono _ _
      | exact LeO.none _
      | refine LeO.ite ?_ ?_
      | refine LeO.bind ?_ (fun _ => ?_)
    · intro y0 y1 y2
      unfold zelligeref03_Parse.j1
      repeat' first
      | (with_reducible exact ih0 _ _ _)
      | (with_reducible exact ih1 _ _ _)
      | (with_reducible exact ih2 _ _ _)
      | (with_reducible exact zelligeref03_Add.mono _ _ _)
      | (with_reducible exact zelligeref03_Mul.mono _ _ _)
      | (with_reducible exact zelligeref03_Trim.mono _ _)
      | (with_reducible exact LeO.refl _)
      | (with_reducible exact LeO.none _)
      | (with_reducible refine LeO.ite ?_ ?_)
      | (with_reducible refine LeO.bind ?_ (fun _ => ?_))
      | exact ih0 _ _ _
      | exact ih1 _ _ _
      | exact ih2 _ _ _
      | exact zelligeref03_Add.mono _ _ _
      | exact zelligeref03_Mul.mono _ _ _
      | exact zelligeref03_Trim.mono _ _
      | exact LeO.none _
      | refine LeO.ite ?_ ?_
      | refine LeO.bind ?_ (fun _ => ?_)
    · intro y0 y1 y2
      unfold zelligeref03_Parse.l1
      repeat' first
      | (with_reducible exact ih0 _ _ _)
      | (with_reducible exact ih1 _ _ _)
      | (with_reducible exact ih2 _ _ _)
      | (with_reducible exact zelligeref03_Add.mono _ _ _)
      | (with_reducible exact zelligeref03_Mul.mono _ _ _)
      | (with_reducible exact zelligeref03_Trim.mono _ _)
      | (with_reducible exact LeO.refl _)
      | (with_reducible exact LeO.none _)
      | (with_reducible refine LeO.ite ?_ ?_)
      | (with_reducible refine LeO.bind ?_ (fun _ => ?_))
      | exact ih0 _ _ _
      | exact ih1 _ _ _
      | exact ih2 _ _ _
      | exact zelligeref03_Add.mono _ _ _
      | exact zelligeref03_Mul.mono _ _ _
      | exact zelligeref03_Trim.mono _ _
      | exact LeO.none _
      | refine LeO.ite ?_ ?_
      | refine LeO.bind ?_ (fun _ => ?_)
theorem zelligeref03_Parse.mono : ∀ a0 k, LeO (zelligeref03_Parse.f k a0) (zelligeref03_Parse.f (k + 1) a0) := by
  intro a0 k
  obtain ⟨ih0, ih1, ih2⟩ := zelligeref03_Parse.mono_l k
  unfold zelligeref03_Parse.f
  repeat' first
      | (with_reducible exact ih0 _ _ _)
      | (with_reducible exact ih1 _ _ _)
      | (with_reducible exact ih2 _ _ _)
      | (with_reducible exact zelligeref03_Add.mono _ _ _)
      | (with_reducible exact zelligeref03_Mul.mono _ _ _)
      | (with_reducible exact zelligeref03_Trim.mono _ _)
      | (with_reducible exact LeO.refl _)
      | (with_reducible exact LeO.none _)
      | (with_reducible refine LeO.ite ?_ ?_)
      | (with_reducible refine LeO.bind ?_ (fun _ => ?_))
      | exact ih0 _ _ _
      | exact ih1 _ _ _
      | exact ih2 _ _ _
      | exact zelligeref03_Add.mono _ _ _
      | exact zelligeref03_Mul.mono _ _ _
      | exact zelligeref03_Trim.mono _ _
      | exact LeO.none _
      | refine LeO.ite ?_ ?_
      | refine LeO.bind ?_ (fun _ => ?_)
def nat_Trim.f (k : Nat) (l0 : List Int) : Option (List Int) := (nat_trim.f k l0).bind fun t349 => ((api_Nat_uint32.f t349).bind fun t352 => (some t352))
theorem nat_Trim.mono : ∀ a0 k, LeO (nat_Trim.f k a0) (nat_Trim.f (k + 1) a0) := by
  intro a0 k
  unfold nat_Trim.f
  repeat' first
      | (with_reducible exact nat_trim.mono _ _)
      | (with_reducible exact LeO.refl _)
      | (with_reducible exact LeO.none _)
      | (with_reducible refine LeO.ite ?_ ?_)
      | (with_reducible refine LeO.bind ?_ (fun _ => ?_))
      | exact nat_trim.mono _ _
      | exact LeO.none _
      | refine LeO.ite ?_ ?_
      | refine LeO.bind ?_ (fun _ => ?_)
def whole_norm.f (k : Nat) (a0 : Bool) (l1 : List Int) : Option (Bool × List Int) := (nat_Trim.f k l1).bind fun t356 => (if a0 = true then (some (decide ((t356.length : Int) > 0), t356)) else (some (false, t356)))
theorem whole_norm.mono : ∀ a0 a1 k, LeO (whole_norm.f k a0 a1) (whole_norm.f (k + 1) a0 a1) := by
  intro a0 a1 k
  unfold whole_norm.f
  repeat' first
      | (with_reducible exact nat_Trim.mono _ _)
      | (with_reducible exact LeO.refl _)
      | (with_reducible exact LeO.none _)
      | (with_reducible refine LeO.ite ?_ ?_)
      | (with_reducible refine LeO.bind ?_ (fun _ => ?_))
      | exact nat_Trim.mono _ _
      | exact LeO.none _
      | refine LeO.ite ?_ ?_
      | refine LeO.bind ?_ (fun _ => ?_)
def whole_Norm.f (k : Nat) (a0_0 : Bool) (l0_1 : List Int) : Option (Bool × List Int) := (whole_norm.f k a0_0 l0_1).bind fun bt361 => (some (bt361.1, bt361.2))
theorem whole_Norm.mono : ∀ a0 a1 k, LeO (whole_Norm.f k a0 a1) (whole_Norm.f (k + 1) a0 a1) := by
  intro a0 a1 k
  unfold whole_Norm.f
  repeat' first
      | (with_reducible exact whole_norm.mono _ _ _)
      | (with_reducible exact LeO.refl _)
      | (with_reducible exact LeO.none _)
      | (with_reducible refine LeO.ite ?_ ?_)
      | (with_reducible refine LeO.bind ?_ (fun _ => ?_))
      | exact whole_norm.mono _ _ _
      | exact LeO.none _
      | refine LeO.ite ?_ ?_
      | refine LeO.bind ?_ (fun _ => ?_)
def nat_size.f (k : Nat) (l0 : List Int) : Option (Int) := (nat_trim.f k l0).bind fun t784 => (if (t784.length : Int) = 0 then (some 0) else (if 0 ≤ (wrap64 ((t784.length : Int) - 1)) then (if (wrap64 ((t784.length : Int) - 1)) < (t784.length : Int) then ((bits_Len32.f (rd t784 (wrap64 ((t784.length : Int) - 1)))).bind fun t788 => (some (wrap64 ((wrap64 (32 * (wrap64 ((t784.length : Int) - 1)))) + t788)))) else (none)) else (none)))
theorem nat_size.mono : ∀ a0 k, LeO (nat_size.f k a0) (nat_size.f (k + 1) a0) := by
  intro a0 k
  unfold nat_size.f
  repeat' first
      | (with_reducible exact nat_trim.mono _ _)
      | (with_reducible exact LeO.refl _)
      | (with_reducible exact LeO.none _)
      | (with_reducible refine LeO.ite ?_ ?_)
      | (with_reducible refine LeO.bind ?_ (fun _ => ?_))
      | exact nat_trim.mono _ _
      | exact LeO.none _
      | refine LeO.ite ?_ ?_
      | refine LeO.bind ?_ (fun _ => ?_)
def nat_Bits.f (k : Nat) (l0 : List Int) : Option (Int) := (nat_size.f k l0).bind fun t789 => (some t789)
theorem nat_Bits.mono : ∀ a0 k, LeO (nat_Bits.f k a0) (nat_Bits.f (k + 1) a0) := by
  intro a0 k
  unfold nat_Bits.f
  repeat' first
      | (with_reducible exact nat_size.mono _ _)
      | (with_reducible exact LeO.refl _)
      | (with_reducible exact LeO.none _)
      | (with_reducible refine LeO.ite ?_ ?_)
      | (with_reducible refine LeO.bind ?_ (fun _ => ?_))
      | exact nat_size.mono _ _
      | exact LeO.none _
      | refine LeO.ite ?_ ?_
      | refine LeO.bind ?_ (fun _ => ?_)
def whole_sign.f (k : Nat) (a0_0 : Bool) (l0_1 : List Int) : Option (Int) := (nat_Bits.f k l0_1).bind fun t791 => (if t791 = 0 then (some 0) else (if a0_0 = true then (some (-1)) else (some 1)))
theorem whole_sign.mono : ∀ a0 a1 k, LeO (whole_sign.f k a0 a1) (whole_sign.f (k + 1) a0 a1) := by
  intro a0 a1 k
  unfold whole_sign.f
  repeat' first
      | (with_reducible exact nat_Bits.mono _ _)
      | (with_reducible exact LeO.refl _)
      | (with_reducible exact LeO.none _)
      | (with_reducible refine LeO.ite ?_ ?_)
      | (with_reducible refine LeO.bind ?_ (fun _ => ?_))
      | exact nat_Bits.mono _ _
      | exact LeO.none _
      | refine LeO.ite ?_ ?_
      | refine LeO.bind ?_ (fun _ => ?_)
def whole_Sign.f (k : Nat) (a0_0 : Bool) (l0_1 : List Int) : Option (Int) := (whole_sign.f k a0_0 l0_1).bind fun t793 => (some t793)
theorem whole_Sign.mono : ∀ a0 a1 k, LeO (whole_Sign.f k a0 a1) (whole_Sign.f (k + 1) a0 a1) := by
  intro a0 a1 k
  unfold whole_Sign.f
  repeat' first
      | (with_reducible exact whole_sign.mono _ _ _)
      | (with_reducible exact LeO.refl _)
      | (with_reducible exact LeO.none _)
      | (with_reducible refine LeO.ite ?_ ?_)
      | (with_reducible refine LeO.bind ?_ (fun _ => ?_))
      | exact whole_sign.mono _ _ _
      | exact LeO.none _
      | refine LeO.ite ?_ ?_
      | refine LeO.bind ?_ (fun _ => ?_)
def whole_add.f (k : Nat) (a0_0 : Bool) (l0_1 : List Int) (a1_0 : Bool) (l1_1 : List Int) : Option (Bool × List Int) := if (a0_0 == a1_0) = true then ((nat_Add.f k l0_1 l1_1).bind fun t462 => ((whole_norm.f k a0_0 t462).bind fun bt465 => (some (bt465.1, bt465.2)))) else ((nat_Sub.f k l0_1 l1_1).bind fun bt469 => (if bt469.2 = true then ((whole_norm.f k a0_0 bt469.1).bind fun bt473 => (some (bt473.1, bt473.2))) else ((nat_Sub.f k l1_1 l0_1).bind fun bt477 => ((whole_norm.f k a1_0 bt477.1).bind fun bt481 => (some (bt481.1, bt481.2))))))
theorem whole_add.mono : ∀ a0 a1 a2 a3 k, LeO (whole_add.f k a0 a1 a2 a3) (whole_add.f (k + 1) a0 a1 a2 a3) := by
  intro a0 a1 a2 a3 k
  unfold whole_add.f
  repeat' first
      | (with_reducible exact nat_Add.mono _ _ _)
      | (with_reducible exact nat_Sub.mono _ _ _)
      | (with_reducible exact whole_norm.mono _ _ _)
      | (with_reducible exact LeO.refl _)
      | (with_reducible exact LeO.none _)
      | (with_reducible refine LeO.ite ?_ ?_)
      | (with_reducible refine LeO.bind ?_ (fun _ => ?_))
      | exact nat_Add.mono _ _ _
      | exact nat_Sub.mono _ _ _
      | exact whole_norm.mono _ _ _
      | exact LeO.none _
      | refine LeO.ite ?_ ?_
      | refine LeO.bind ?_ (fun _ => ?_)
def whole_Add.f (k : Nat) (a0_0 : Bool) (l0_1 : List Int) (a1_0 : Bool) (l1_1 : List Int) : Option (Bool × List Int) := (whole_add.f k a0_0 l0_1 a1_0 l1_1).bind fun bt489 => (some (bt489.1, bt489.2))
theorem whole_Add.mono : ∀ a0 a1 a2 a3 k, LeO (whole_Add.f k a0 a1 a2 a3) (whole_Add.f (k + 1) a0 a1 a2 a3) := by
  intro a0 a1 a2 a3 k
  unfold whole_Add.f
  repeat' first
      | (with_reducible exact whole_add.mono _ _ _ _ _)
      | (with_reducible exact LeO.refl _)
      | (with_reducible exact LeO.none _)
      | (with_reducible refine LeO.ite ?_ ?_)
      | (with_reducible refine LeO.bind ?_ (fun _ => ?_))
      | exact whole_add.mono _ _ _ _ _
      | exact LeO.none _
      | refine LeO.ite ?_ ?_
      | refine LeO.bind ?_ (fun _ => ?_)
def whole_neg.f (k : Nat) (a0_0 : Bool) (l0_1 : List Int) : Option (Bool × List Int) := (whole_norm.f k (!a0_0) l0_1).bind fun bt796 => (some (bt796.1, bt796.2))
theorem whole_neg.mono : ∀ a0 a1 k, LeO (whole_neg.f k a0 a1) (whole_neg.f (k + 1) a0 a1) := by
  intro a0 a1 k
  unfold whole_neg.f
  repeat' first
      | (with_reducible exact whole_norm.mono _ _ _)
      | (with_reducible exact LeO.refl _)
      | (with_reducible exact LeO.none _)
      | (with_reducible refine LeO.ite ?_ ?_)
      | (with_reducible refine LeO.bind ?_ (fun _ => ?_))
      | exact whole_norm.mono _ _ _
      | exact LeO.none _
      | refine LeO.ite ?_ ?_
      | refine LeO.bind ?_ (fun _ => ?_)
def whole_Neg.f (k : Nat) (a0_0 : Bool) (l0_1 : List Int) : Option (Bool × List Int) := (whole_neg.f k a0_0 l0_1).bind fun bt802 => (some (bt802.1, bt802.2))
theorem whole_Neg.mono : ∀ a0 a1 k, LeO (whole_Neg.f k a0 a1) (whole_Neg.f (k + 1) a0 a1) := by
  intro a0 a1 k
  unfold whole_Neg.f
  repeat' first
      | (with_reducible exact whole_neg.mono _ _ _)
      | (with_reducible exact LeO.refl _)
      | (with_reducible exact LeO.none _)
      | (with_reducible refine LeO.ite ?_ ?_)
      | (with_reducible refine LeO.bind ?_ (fun _ => ?_))
      | exact whole_neg.mono _ _ _
      | exact LeO.none _
      | refine LeO.ite ?_ ?_
      | refine LeO.bind ?_ (fun _ => ?_)
def whole_Cmp.f (k : Nat) (a0_0 : Bool) (l0_1 : List Int) (a1_0 : Bool) (l1_1 : List Int) : Option (Int) := (whole_sign.f k a0_0 l0_1).bind fun t1204 => ((whole_sign.f k a1_0 l1_1).bind fun t1205 => (if t1204 < t1205 then (some (-1)) else (if t1204 > t1205 then (some 1) else (if t1204 < 0 then ((nat_Cmp.f k l1_1 l0_1).bind fun t1206 => (some t1206)) else ((nat_Cmp.f k l0_1 l1_1).bind fun t1207 => (some t1207))))))
theorem whole_Cmp.mono : ∀ a0 a1 a2 a3 k, LeO (whole_Cmp.f k a0 a1 a2 a3) (whole_Cmp.f (k + 1) a0 a1 a2 a3) := by
  intro a0 a1 a2 a3 k
  unfold whole_Cmp.f
  repeat' first
      | (with_reducible exact nat_Cmp.mono _ _ _)
      | (with_reducible exact whole_sign.mono _ _ _)
      | (with_reducible exact LeO.refl _)
      | (with_reducible exact LeO.none _)
      | (with_reducible refine LeO.ite ?_ ?_)
      | (with_reducible refine LeO.bind ?_ (fun _ => ?_))
      | exact nat_Cmp.mono _ _ _
      | exact whole_sign.mono _ _ _
      | exact LeO.none _
      | refine LeO.ite ?_ ?_
      | refine LeO.bind ?_ (fun _ => ?_)
def whole_Mul.f (k : Nat) (a0_0 : Bool) (l0_1 : List Int) (a1_0 : Bool) (l1_1 : List Int) : Option (Bool × List Int) := (nat_Mul.f k l0_1 l1_1).bind fun t1012 => ((whole_norm.f k (a0_0 != a1_0) t1012).bind fun bt1015 => (some (bt1015.1, bt1015.2)))
theorem whole_Mul.mono : ∀ a0 a1 a2 a3 k, LeO (whole_Mul.f k a0 a1 a2 a3) (whole_Mul.f (k + 1) a0 a1 a2 a3) := by
  intro a0 a1 a2 a3 k
  unfold whole_Mul.f
  repeat' first
      | (with_reducible exact nat_Mul.mono _ _ _)
      | (with_reducible exact whole_norm.mono _ _ _)
      | (with_reducible exact LeO.refl _)
      | (with_reducible exact LeO.none _)
      | (with_reducible refine LeO.ite ?_ ?_)
      | (with_reducible refine LeO.bind ?_ (fun _ => ?_))
      | exact nat_Mul.mono _ _ _
      | exact whole_norm.mono _ _ _
      | exact LeO.none _
      | refine LeO.ite ?_ ?_
      | refine LeO.bind ?_ (fun _ => ?_)
def stringslite_HasPrefix.f (a0 : ByteArray) (a1 : ByteArray) : Option (Bool) := if (a0.size : Int) ≥ (a1.size : Int) then (if 0 ≤ (a1.size : Int) then (if (a1.size : Int) ≤ (a0.size : Int) then (some ((a0.extract 0 ((a1.size : Int) : Int).toNat).toList == a1.toList)) else (none)) else (none)) else (some false)
def stringslite_CutPrefix.f (a0 : ByteArray) (a1 : ByteArray) : Option (ByteArray × Bool) := (stringslite_HasPrefix.f a0 a1).bind fun t1253 => (if t1253 = true then (if 0 ≤ (a1.size : Int) then (if (a1.size : Int) ≤ (a0.size : Int) then (some (a0.extract ((a1.size : Int) : Int).toNat a0.size, true)) else (none)) else (none)) else (some (a0, false)))
def strings_CutPrefix.f (a0 : ByteArray) (a1 : ByteArray) : Option (ByteArray × Bool) := (stringslite_CutPrefix.f a0 a1).bind fun bt1254 => (some (bt1254.1, bt1254.2))
def whole_Parse.f (k : Nat) (a0 : ByteArray) : Option (Bool × List Int × Int) := (strings_CutPrefix.f a0 (⟨#[45]⟩ : ByteArray)).bind fun bt1257 => ((nat_Parse.f k bt1257.1).bind fun bt1259 => (if bt1259.2 = 0 then (if bt1257.2 = true then (if (bt1259.1.length : Int) = 0 then (some (false, ([] : List Int), 4)) else ((whole_norm.f k bt1257.2 bt1259.1).bind fun bt1263 => (some (bt1263.1, bt1263.2, 0)))) else ((whole_norm.f k bt1257.2 bt1259.1).bind fun bt1267 => (some (bt1267.1, bt1267.2, 0)))) else (some (false, ([] : List Int), bt1259.2))))
theorem whole_Parse.mono : ∀ a0 k, LeO (whole_Parse.f k a0) (whole_Parse.f (k + 1) a0) := by
  intro a0 k
  unfold whole_Parse.f
  repeat' first
      | (with_reducible exact nat_Parse.mono _ _)
      | (with_reducible exact whole_norm.mono _ _ _)
      | (with_reducible exact LeO.refl _)
      | (with_reducible exact LeO.none _)
      | (with_reducible refine LeO.ite ?_ ?_)
      | (with_reducible refine LeO.bind ?_ (fun _ => ?_))
      | exact nat_Parse.mono _ _
      | exact whole_norm.mono _ _ _
      | exact LeO.none _
      | refine LeO.ite ?_ ?_
      | refine LeO.bind ?_ (fun _ => ?_)
def whole_Show.f (k : Nat) (a0_0 : Bool) (l0_1 : List Int) : Option (ByteArray) := (whole_sign.f k a0_0 l0_1).bind fun t862 => (if t862 < 0 then ((nat_Show.f k l0_1).bind fun t863 => (if 1 + t863.size ≤ 9223372036854775807 then (some ((⟨#[45]⟩ : ByteArray) ++ t863)) else (none))) else ((nat_Show.f k l0_1).bind fun t864 => (some t864)))
theorem whole_Show.mono : ∀ a0 a1 k, LeO (whole_Show.f k a0 a1) (whole_Show.f (k + 1) a0 a1) := by
  intro a0 a1 k
  unfold whole_Show.f
  repeat' first
      | (with_reducible exact nat_Show.mono _ _)
      | (with_reducible exact whole_sign.mono _ _ _)
      | (with_reducible exact LeO.refl _)
      | (with_reducible exact LeO.none _)
      | (with_reducible refine LeO.ite ?_ ?_)
      | (with_reducible refine LeO.bind ?_ (fun _ => ?_))
      | exact nat_Show.mono _ _
      | exact whole_sign.mono _ _ _
      | exact LeO.none _
      | refine LeO.ite ?_ ?_
      | refine LeO.bind ?_ (fun _ => ?_)
def whole_Of.f (k : Nat) (a0 : Int) : Option (Bool × List Int) := if a0 < 0 then ((nat_Of.f k (IntKind.u64.wrap (-(IntKind.u64.wrap (a0))))).bind fun t976 => ((whole_norm.f k true t976).bind fun bt979 => (some (bt979.1, bt979.2)))) else ((nat_Of.f k (IntKind.u64.wrap (a0))).bind fun t983 => ((whole_norm.f k false t983).bind fun bt986 => (some (bt986.1, bt986.2))))
theorem whole_Of.mono : ∀ a0 k, LeO (whole_Of.f k a0) (whole_Of.f (k + 1) a0) := by
  intro a0 k
  unfold whole_Of.f
  repeat' first
      | (with_reducible exact nat_Of.mono _ _)
      | (with_reducible exact whole_norm.mono _ _ _)
      | (with_reducible exact LeO.refl _)
      | (with_reducible exact LeO.none _)
      | (with_reducible refine LeO.ite ?_ ?_)
      | (with_reducible refine LeO.bind ?_ (fun _ => ?_))
      | exact nat_Of.mono _ _
      | exact whole_norm.mono _ _ _
      | exact LeO.none _
      | refine LeO.ite ?_ ?_
      | refine LeO.bind ?_ (fun _ => ?_)
def whole_Floor.j0 : Nat → Bool → Bool → List Int → Bool → List Int → Bool → List Int → Option (Bool × List Int × Bool × List Int × Int)
 | 0, _, _, _, _, _, _, _ => none
 | k + 1, u9, q0, q1, qN, qO, qP, qQ => if u9 = true then ((whole_norm.f k true (([1] : List Int))).bind fun bt396 => ((whole_add.f k qN qO bt396.1 bt396.2).bind fun bt400 => ((whole_add.f k qP qQ q0 q1).bind fun bt404 => (some (bt400.1, bt400.2, bt404.1, bt404.2, 0))))) else (some (qN, qO, qP, qQ, 0))
def whole_Floor.f (k : Nat) (a0_0 : Bool) (l0_1 : List Int) (a1_0 : Bool) (l1_1 : List Int) : Option (Bool × List Int × Bool × List Int × Int) := (nat_DivMod.f k l0_1 l1_1).bind fun bt376 => (if bt376.2.2 = 0 then ((whole_norm.f k (a0_0 != a1_0) bt376.1).bind fun bt383 => ((whole_norm.f k a0_0 bt376.2.1).bind fun bt387 => (if (a0_0 != a1_0) = true then (whole_Floor.j0 k (decide ((bt387.2.length : Int) > 0)) a1_0 l1_1 bt383.1 bt383.2 bt387.1 bt387.2) else (whole_Floor.j0 k false a1_0 l1_1 bt383.1 bt383.2 bt387.1 bt387.2)))) else (some (false, ([] : List Int), false, ([] : List Int), bt376.2.2)))
theorem whole_Floor.mono_l : ∀ k, (∀ y0 y1 y2 y3 y4 y5 y6, LeO (whole_Floor.j0 k y0 y1 y2 y3 y4 y5 y6) (whole_Floor.j0 (k + 1) y0 y1 y2 y3 y4 y5 y6))
 | 0 => fun _ _ _ _ _ _ _ r h => by simp [whole_Floor.j0] at h
 | k + 1 => by
  have ih0 := whole_Floor.mono_l k
  ·
   intro y0 y1 y2 y3 y4 y5 y6
   unfold whole_Floor.j0
   repeat' first
   | (with_reducible exact whole_add.mono _ _ _ _ _)
   | (with_reducible exact whole_norm.mono _ _ _)
   | (with_reducible exact LeO.refl _)
   | (with_reducible refine LeO.ite ?_ ?_)
   | (with_reducible refine LeO.bind ?_ (fun _ => ?_))
theorem whole_Floor.mono : ∀ a0 a1 a2 a3 k, LeO (whole_Floor.f k a0 a1 a2 a3) (whole_Floor.f (k + 1) a0 a1 a2 a3) := by
 intro a0 a1 a2 a3 k
 have ih0 := whole_Floor.mono_l k
 unfold whole_Floor.f
 repeat' first
   | (with_reducible exact ih0 _ _ _ _ _ _ _)
   | (with_reducible exact nat_DivMod.mono _ _ _)
   | (with_reducible exact whole_norm.mono _ _ _)
   | (with_reducible exact LeO.refl _)
   | (with_reducible refine LeO.ite ?_ ?_)
   | (with_reducible refine LeO.bind ?_ (fun _ => ?_))
def whole_Sub.f (k : Nat) (a0_0 : Bool) (l0_1 : List Int) (a1_0 : Bool) (l1_1 : List Int) : Option (Bool × List Int) := (whole_neg.f k a1_0 l1_1).bind fun bt576 => ((whole_add.f k a0_0 l0_1 bt576.1 bt576.2).bind fun bt580 => (some (bt580.1, bt580.2)))
theorem whole_Sub.mono : ∀ a0 a1 a2 a3 k, LeO (whole_Sub.f k a0 a1 a2 a3) (whole_Sub.f (k + 1) a0 a1 a2 a3) := by
 intro a0 a1 a2 a3 k
 unfold whole_Sub.f
 repeat' first
   | (with_reducible exact whole_add.mono _ _ _ _ _)
   | (with_reducible exact whole_neg.mono _ _ _)
   | (with_reducible exact LeO.refl _)
   | (with_reducible refine LeO.bind ?_ (fun _ => ?_))
end Go.Proofs.YtofklpmlgfbmlaaGreat.ZRat
