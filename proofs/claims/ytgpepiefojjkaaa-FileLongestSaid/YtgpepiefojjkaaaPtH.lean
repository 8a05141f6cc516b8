/- What the printed parser of meshes comes to, told of bytes. -/
import Derived.Test.YtgpepiefojjkaaaPtFB
import Derived.Test.YtgpepiefojjkaaaPtG
namespace Go.Proofs.Ytgpepiefojjkaaa.Pt
open Go.RowKit Go.Proofs.YtgpepiefojjkaaaW.PrintWords Go.Proofs.YtgpepiefojjkaaaW.PrintLast Go.Proofs.YtgpepiefojjkaaaW.PrintMore Go.Proofs.Ytgpepiefojjkaaa.ZFil
set_option linter.unusedVariables false
set_option linter.unusedSimpArgs false

/-- What a method of the reader's answers. -/
def W4 (s : ByteArray) (r : Int × Nat × Bool) : Int × ByteArray × Int × Bool := (r.1, s, ((r.2.1 : Nat) : Int), r.2.2)
theorem fword_f (s : ByteArray) (hs : s.size < 1099511627776) (a : Nat) (ha : a ≤ s.size) (ok : Bool) (ws : List ByteArray) (hw : ws.length < 1000) : Ev (fun k => file_reader_word.f k s (a : Int) ok ws) (W4 s (rwS (bytesOf s) (ws.map bytesOf) a ok)) := by
  unfold file_reader_word.f rwS
  cases ok
  · exact Ev.congr (fun k => if_neg Bool.false_ne_true) (Ev.now _)
  · refine Ev.congr (fun k => if_pos rfl) (Ev.bind (Words_f s hs a ha ws hw) ?_)
    rw [if_pos rfl]
    exact Ev.now _
theorem fnumber_f (s : ByteArray) (hs : s.size < 1099511627776) (a : Nat) (ha : a ≤ s.size) (ok b : Bool) (w : ByteArray) : Ev (fun k => file_reader_number.f k s (a : Int) ok b w) (W4 s (rnS (bytesOf s) b (bytesOf w) a ok)) := by
  unfold file_reader_number.f rnS
  cases ok
  · exact Ev.congr (fun k => if_neg Bool.false_ne_true) (Ev.now _)
  · rw [if_pos rfl]
    have h1 := numS_le b ((bytesOf s).drop a)
    have h2 := drop_len s a
    refine Ev.congr (fun k => if_pos rfl) (Ev.bind (Number_f s hs b a ha) (Ev.bind (a := W4 s (rwS (bytesOf s) [bytesOf w] (a + (numS b ((bytesOf s).drop a)).2.1) (numS b ((bytesOf s).drop a)).2.2)) ?_ (Ev.now _)))
    exact fword_f s hs (a + (numS b ((bytesOf s).drop a)).2.1) (by omega) _ [w] (by simp)
theorem three_f (s : ByteArray) (hs : s.size < 1099511627776) (a : Nat) (ha : a ≤ s.size) (ok b : Bool) (w : ByteArray) (r : List Int × Nat × Bool) (hr : chainS (bytesOf s) (threeL b (bytesOf w)) [] a ok = r) :
    Ev (fun k => file_reader_three.f k s (a : Int) ok b w) (r.1.getD 0 0, r.1.getD 1 0, r.1.getD 2 0, s, ((r.2.1 : Nat) : Int), r.2.2) := by
  subst hr
  have lb := bytesOf_length s
  unfold file_reader_three.f threeL
  simp only [chainS]
  have n1 := fnumber_f s hs a ha ok false (⟨#[32]⟩ : ByteArray)
  rw [show bytesOf (⟨#[32]⟩ : ByteArray) = [32] from rfl] at n1
  have e1 := rnS_le (bytesOf s) false [32] a ok (by omega)
  generalize rnS (bytesOf s) false [32] a ok = x at *
  refine Ev.bind n1 ?_
  have n2 := fnumber_f s hs x.2.1 (by omega) x.2.2 b (⟨#[32]⟩ : ByteArray)
  rw [show bytesOf (⟨#[32]⟩ : ByteArray) = [32] from rfl] at n2
  have e2 := rnS_le (bytesOf s) b [32] x.2.1 x.2.2 (by omega)
  generalize rnS (bytesOf s) b [32] x.2.1 x.2.2 = y at *
  refine Ev.bind n2 ?_
  have n3 := fnumber_f s hs y.2.1 (by omega) y.2.2 b w
  generalize rnS (bytesOf s) b (bytesOf w) y.2.1 y.2.2 = z at *
  exact Ev.bind n3 (Ev.now _)
theorem getD_app (l m : List Int) (i : Nat) (h : l.length = 3) : (l ++ m).getD (i + 3) 0 = m.getD i 0 := by
  rw [List.getD_eq_getElem?_getD, List.getD_eq_getElem?_getD, List.getElem?_append_right (by omega), h, Nat.add_sub_cancel]
theorem getD_fst (l m : List Int) (i : Nat) (h : i < l.length) : (l ++ m).getD i 0 = l.getD i 0 := by
  rw [List.getD_eq_getElem?_getD, List.getD_eq_getElem?_getD, List.getElem?_append_left h]
theorem corners_f (s : ByteArray) (hs : s.size < 1099511627776) (a : Nat) (ha : a ≤ s.size) (ok : Bool) (r : List Int × Nat × Bool) (hr : chainS (bytesOf s) nineL [] a ok = r) :
    Ev (fun k => file_reader_corners.f k s (a : Int) ok) (r.1.getD 0 0, r.1.getD 1 0, r.1.getD 2 0, r.1.getD 3 0, r.1.getD 4 0, r.1.getD 5 0, r.1.getD 6 0, r.1.getD 7 0, r.1.getD 8 0, s, ((r.2.1 : Nat) : Int), r.2.2) := by
  subst hr
  have lb := bytesOf_length s
  unfold file_reader_corners.f nineL
  rw [chainS_app, chainS_acc]
  have n1 := three_f s hs a ha ok true (⟨#[32]⟩ : ByteArray) _ rfl
  rw [show bytesOf (⟨#[32]⟩ : ByteArray) = [32] from rfl] at n1
  have e1 := chainS_le (bytesOf s) (threeL true [32]) [] a ok (by omega)
  have l1 := chainS_len (bytesOf s) (threeL true [32]) [] a ok
  generalize chainS (bytesOf s) (threeL true [32]) [] a ok = x at *
  rw [chainS_app, chainS_acc]
  have n2 := three_f s hs x.2.1 (by omega) x.2.2 true (⟨#[32]⟩ : ByteArray) _ rfl
  rw [show bytesOf (⟨#[32]⟩ : ByteArray) = [32] from rfl] at n2
  have e2 := chainS_le (bytesOf s) (threeL true [32]) [] x.2.1 x.2.2 (by omega)
  have l2 := chainS_len (bytesOf s) (threeL true [32]) [] x.2.1 x.2.2
  generalize chainS (bytesOf s) (threeL true [32]) [] x.2.1 x.2.2 = y at *
  have n3 := three_f s hs y.2.1 (by omega) y.2.2 true (⟨#[10]⟩ : ByteArray) _ rfl
  rw [show bytesOf (⟨#[10]⟩ : ByteArray) = [10] from rfl] at n3
  have l3 := chainS_len (bytesOf s) (threeL true [10]) [] y.2.1 y.2.2
  generalize chainS (bytesOf s) (threeL true [10]) [] y.2.1 y.2.2 = z at *
  simp only [List.length_nil, threeL, List.length_cons, Nat.zero_add] at l1 l2 l3
  have g0 : ∀ i, i < 3 → (x.1 ++ (y.1 ++ z.1)).getD i 0 = x.1.getD i 0 := fun i h => getD_fst _ _ _ (by omega)
  have g1 : ∀ i, i < 3 → (x.1 ++ (y.1 ++ z.1)).getD (i + 3) 0 = y.1.getD i 0 := fun i h => by rw [getD_app _ _ _ l1, getD_fst _ _ _ (by omega)]
  have g2 : ∀ i, i < 3 → (x.1 ++ (y.1 ++ z.1)).getD (i + 6) 0 = z.1.getD i 0 := fun i h => by rw [show i + 6 = i + 3 + 3 from rfl, getD_app _ _ _ l1, getD_app _ _ _ l2]
  refine Ev.bind n1 (Ev.bind n2 (Ev.bind n3 (Ev.congr (fun k => ?_) (Ev.now _))))
  simp only [g0 0 (by omega), g0 1 (by omega), g0 2 (by omega), g1 0 (by omega), g1 1 (by omega), g1 2 (by omega), g2 0 (by omega), g2 1 (by omega), g2 2 (by omega)]
def mkS (l : List Int) : S41 := ⟨l.getD 0 0, l.getD 1 0, l.getD 2 0⟩
def mkF (l : List Int) : S50 := ⟨⟨l.getD 0 0, l.getD 1 0, l.getD 2 0⟩, ⟨l.getD 3 0, l.getD 4 0, l.getD 5 0⟩, ⟨l.getD 6 0, l.getD 7 0, l.getD 8 0⟩⟩
/-- What is told at the end. -/
def finF (n : Int × Int × Int) (m : Nat) (l : List S41) (f : List S50 × Nat × Bool) : Int × Int × Int × List S41 × List S50 × Int × Int := if f.2.2 = true ∧ f.2.1 = m then (n.1, n.2.1, n.2.2, l, f.1, 0, 0) else (0, 0, 0, [], [], ((f.2.1 : Nat) : Int), 17)
theorem lineT_f (s : ByteArray) (hs : s.size < 1099511627776) (a : Nat) (ha : a ≤ s.size) (ok : Bool) : Ev (fun k => file_reader_word.f k s (a : Int) ok [(⟨#[115, 105, 116, 101, 32]⟩ : ByteArray), (⟨#[102, 97, 99, 101, 32]⟩ : ByteArray), (⟨#[101, 110, 100, 10]⟩ : ByteArray)]) (W4 s (lineS (bytesOf s) true a ok)) :=
  fword_f s hs a ha ok [(⟨#[115, 105, 116, 101, 32]⟩ : ByteArray), (⟨#[102, 97, 99, 101, 32]⟩ : ByteArray), (⟨#[101, 110, 100, 10]⟩ : ByteArray)] (by simp)
theorem lineF_f (s : ByteArray) (hs : s.size < 1099511627776) (a : Nat) (ha : a ≤ s.size) (ok : Bool) : Ev (fun k => file_reader_word.f k s (a : Int) ok [(⟨#[101, 110, 100, 10]⟩ : ByteArray), (⟨#[102, 97, 99, 101, 32]⟩ : ByteArray)]) (W4 s (lineS (bytesOf s) false a ok)) :=
  fword_f s hs a ha ok [(⟨#[101, 110, 100, 10]⟩ : ByteArray), (⟨#[102, 97, 99, 101, 32]⟩ : ByteArray)] (by simp)
theorem fin_f (s : ByteArray) (n : Int × Int × Int) (l : List S41) (acc : List S50) (a : Nat) (ok : Bool) : (if ok = true then (if ((a : Nat) : Int) = (s.size : Int) then some (n.1, n.2.1, n.2.2, l, acc, (0 : Int), (0 : Int)) else some (0, 0, 0, [], [], (a : Int), 17)) else some (0, 0, 0, [], [], (a : Int), 17)) = some (finF n s.size l (acc, a, ok)) := by
  unfold finF
  have ec : (((a : Nat) : Int) = ((s.size : Nat) : Int)) ↔ a = s.size := by omega
  by_cases c1 : ok = true
  · by_cases c2 : a = s.size
    · simp [c1, c2]
    · simp [c1, c2, ec]
  · simp [c1]
theorem Faces_l1 (s : ByteArray) (hs : s.size < 1099511627776) (n : Int × Int × Int) (l : List S41) : ∀ (d a : Nat) (q : Int) (ok : Bool) (acc : List S50), (q = 1 → 5 ≤ a ∧ acc.length + 5 ≤ a) → s.size < a + d → a ≤ s.size →
    Ev (fun k => file_Parse.l1 k s q s (a : Int) ok n.1 n.2.1 n.2.2 l acc) (finF n s.size l (facesS mkF (bytesOf s) d acc q a ok)) := by
  have lb := bytesOf_length s
  intro d
  induction d with
  | zero => intro a q ok acc h0 h1 h2; omega
  | succ d ih =>
    intro a q ok acc h0 h1 h2
    simp only [facesS]
    by_cases e : q = 1
    · obtain ⟨h3, h4⟩ := h0 e
      rw [if_pos e]
      have nc := corners_f s hs a h2 ok _ rfl
      have i1 := chainS_le (bytesOf s) nineL [] a ok (by omega)
      have f1 := chainS_ge (bytesOf s) nineL [] a ok
      generalize chainS (bytesOf s) nineL [] a ok = c at *
      have nl := lineF_f s hs c.2.1 (by omega) c.2.2
      have i2 := lineS_le (bytesOf s) false c.2.1 c.2.2 i1
      have st := line_more (bytesOf s) false c.2.1 c.2.2 _ rfl i1
      have f2 := lineS_ge (bytesOf s) false c.2.1 c.2.2
      generalize lineS (bytesOf s) false c.2.1 c.2.2 = p at *
      refine Ev.step (f := fun k => (file_reader_corners.f k s (a : Int) ok).bind fun b => if acc.length < 1954687338268 then (file_reader_word.f k b.2.2.2.2.2.2.2.2.2.1 b.2.2.2.2.2.2.2.2.2.2.1 b.2.2.2.2.2.2.2.2.2.2.2 [(⟨#[101, 110, 100, 10]⟩ : ByteArray), (⟨#[102, 97, 99, 101, 32]⟩ : ByteArray)]).bind fun b2 => file_Parse.l1 k s b2.1 b2.2.1 b2.2.2.1 b2.2.2.2 n.1 n.2.1 n.2.2 l (acc ++ [(⟨(⟨b.1, b.2.1, b.2.2.1⟩ : S41), (⟨b.2.2.2.1, b.2.2.2.2.1, b.2.2.2.2.2.1⟩ : S41), (⟨b.2.2.2.2.2.2.1, b.2.2.2.2.2.2.2.1, b.2.2.2.2.2.2.2.2.1⟩ : S41)⟩ : S50)]) else none) (fun k => ?_) (Ev.bind nc ?_)
      · show file_Parse.l1 (k + 1) _ _ _ _ _ _ _ _ _ _ = _
        simp only [file_Parse.l1]
        rw [if_pos e]
      · refine Ev.congr (fun k => if_pos (by omega)) (Ev.bind nl ?_)
        by_cases e2 : p.1 = 1
        · have := st (.inl e2)
          exact ih p.2.1 p.1 p.2.2 _ (fun _ => by rw [List.length_append]; simp; omega) (by omega) (by omega)
        · rw [facesS_stop mkF _ _ _ _ _ _ e2]
          refine Ev.step (f := fun _ => some _) (fun k => ?_) (Ev.now _)
          show file_Parse.l1 (k + 1) _ _ _ _ _ _ _ _ _ _ = _
          simp only [file_Parse.l1, W4]
          rw [if_neg (by exact e2)]
          exact fin_f s n l _ p.2.1 p.2.2
    · rw [if_neg e]
      refine Ev.step (f := fun _ => some _) (fun k => ?_) (Ev.now _)
      show file_Parse.l1 (k + 1) _ _ _ _ _ _ _ _ _ _ = _
      simp only [file_Parse.l1]
      rw [if_neg e]
      exact fin_f s n l acc a ok
theorem Sites_l0 (s : ByteArray) (hs : s.size < 1099511627776) (n : Int × Int × Int) : ∀ (d a : Nat) (q : Int) (ok : Bool) (acc : List S41), (q = 0 ∨ q = 1 → 5 ≤ a ∧ acc.length + 5 ≤ a) → s.size < a + d → a ≤ s.size →
    Ev (fun k => file_Parse.l0 k s q s (a : Int) ok n.1 n.2.1 n.2.2 acc) (finF n s.size (sitesS mkS mkF (bytesOf s) d acc q a ok).1 (sitesS mkS mkF (bytesOf s) d acc q a ok).2) := by
  have lb := bytesOf_length s
  intro d
  induction d with
  | zero => intro a q ok acc h0 h1 h2; omega
  | succ d ih =>
    intro a q ok acc h0 h1 h2
    simp only [sitesS]
    by_cases e : q = 0
    · obtain ⟨h3, h4⟩ := h0 (.inl e)
      rw [if_pos e]
      have nc := three_f s hs a h2 ok false (⟨#[10]⟩ : ByteArray) _ rfl
      rw [show bytesOf (⟨#[10]⟩ : ByteArray) = [10] from rfl] at nc
      have i1 := chainS_le (bytesOf s) (threeL false [10]) [] a ok (by omega)
      have f1 := chainS_ge (bytesOf s) (threeL false [10]) [] a ok
      generalize chainS (bytesOf s) (threeL false [10]) [] a ok = c at *
      have nl := lineT_f s hs c.2.1 (by omega) c.2.2
      have i2 := lineS_le (bytesOf s) true c.2.1 c.2.2 i1
      have st := line_more (bytesOf s) true c.2.1 c.2.2 _ rfl i1
      have f2 := lineS_ge (bytesOf s) true c.2.1 c.2.2
      generalize lineS (bytesOf s) true c.2.1 c.2.2 = p at *
      refine Ev.step (f := fun k => (file_reader_three.f k s (a : Int) ok false (⟨#[10]⟩ : ByteArray)).bind fun b => if acc.length < 5864062014805 then (file_reader_word.f k b.2.2.2.1 b.2.2.2.2.1 b.2.2.2.2.2 [(⟨#[115, 105, 116, 101, 32]⟩ : ByteArray), (⟨#[102, 97, 99, 101, 32]⟩ : ByteArray), (⟨#[101, 110, 100, 10]⟩ : ByteArray)]).bind fun b2 => file_Parse.l0 k s b2.1 b2.2.1 b2.2.2.1 b2.2.2.2 n.1 n.2.1 n.2.2 (acc ++ [(⟨b.1, b.2.1, b.2.2.1⟩ : S41)]) else none) (fun k => ?_) (Ev.bind nc ?_)
      · show file_Parse.l0 (k + 1) _ _ _ _ _ _ _ _ _ = _
        simp only [file_Parse.l0]
        rw [if_pos e]
      · refine Ev.congr (fun k => if_pos (by omega)) (Ev.bind nl ?_)
        by_cases e2 : p.1 = 0 ∨ p.1 = 1
        · have := st (e2.symm.imp id (fun h => ⟨rfl, h⟩))
          exact ih p.2.1 p.1 p.2.2 _ (fun _ => by rw [List.length_append]; simp; omega) (by omega) (by omega)
        · have st2 : ∀ (k : Nat) (acc : List S41), sitesS mkS mkF (bytesOf s) k acc p.1 p.2.1 p.2.2 = (acc, [], p.2.1, p.2.2) := by
            intro k acc
            cases k with
            | zero => rfl
            | succ k => simp only [sitesS]; rw [if_neg (fun e => e2 (.inl e)), facesS_stop mkF _ _ _ _ _ _ (fun e => e2 (.inr e))]
          rw [st2]
          refine Ev.step (f := fun k => file_Parse.l1 k s p.1 s (p.2.1 : Int) p.2.2 n.1 n.2.1 n.2.2 (acc ++ [mkS c.1]) []) (fun k => ?_) (Ev.step (f := fun _ => some _) (fun k => ?_) (Ev.now _))
          · show file_Parse.l0 (k + 1) _ _ _ _ _ _ _ _ _ = _
            simp only [file_Parse.l0, W4]
            rw [if_neg (fun e => e2 (.inl e))]
            rfl
          · show file_Parse.l1 (k + 1) _ _ _ _ _ _ _ _ _ _ = _
            simp only [file_Parse.l1]
            rw [if_neg (fun e => e2 (.inr e))]
            exact fin_f s n _ [] p.2.1 p.2.2
    · rw [if_neg e]
      refine Ev.step (f := fun k => file_Parse.l1 k s q s (a : Int) ok n.1 n.2.1 n.2.2 acc []) (fun k => ?_) (Faces_l1 s hs n acc (d + 1) a q ok [] (fun e1 => by have := h0 (.inr e1); simp; omega) h1 h2)
      show file_Parse.l0 (k + 1) _ _ _ _ _ _ _ _ _ = _
      simp only [file_Parse.l0]
      rw [if_neg e]
theorem FParse_f (s : ByteArray) (hs : s.size < 1099511627776) : Ev (fun k => file_Parse.f k s) (resF mkS mkF (bytesOf s)) := by
  have lb := bytesOf_length s
  have hw := fword_f s hs 0 (Nat.zero_le _) true [(⟨#[109, 101, 115, 104, 32]⟩ : ByteArray)] (by simp)
  rw [show [(⟨#[109, 101, 115, 104, 32]⟩ : ByteArray)].map bytesOf = [meshW] from rfl] at hw
  have hq := rwS_le (bytesOf s) [meshW] 0 true (Nat.zero_le _)
  have hl := headS_le (bytesOf s)
  have hd : headS (bytesOf s) = chainS (bytesOf s) (threeL false [10]) [] (rwS (bytesOf s) [meshW] 0 true).2.1 (rwS (bytesOf s) [meshW] 0 true).2.2 := rfl
  have efin : resF mkS mkF (bytesOf s) = finF ((fileS mkS mkF (bytesOf s)).1.getD 0 0, (fileS mkS mkF (bytesOf s)).1.getD 1 0, (fileS mkS mkF (bytesOf s)).1.getD 2 0) s.size (fileS mkS mkF (bytesOf s)).2.1 (fileS mkS mkF (bytesOf s)).2.2 := by
    unfold resF finF
    rw [lb]
  rw [efin]
  unfold fileS
  simp only
  rw [lb]
  generalize rwS (bytesOf s) [meshW] 0 true = q at *
  have n1 := three_f s hs q.2.1 (by omega) q.2.2 false (⟨#[10]⟩ : ByteArray) (headS (bytesOf s)) (by rw [hd]; rfl)
  generalize headS (bytesOf s) = x at *
  have nl := lineT_f s hs x.2.1 (by omega) x.2.2
  have i2 := lineS_le (bytesOf s) true x.2.1 x.2.2 hl
  have st := line_more (bytesOf s) true x.2.1 x.2.2 _ rfl hl
  generalize lineS (bytesOf s) true x.2.1 x.2.2 = p at *
  unfold file_Parse.f
  refine Ev.bind hw (Ev.bind n1 (Ev.bind nl ?_))
  exact Sites_l0 s hs (x.1.getD 0 0, x.1.getD 1 0, x.1.getD 2 0) (s.size + 1) p.2.1 p.1 p.2.2 [] (fun e => by have := st (e.symm.imp id (fun h => ⟨rfl, h⟩)); simp; omega) (by omega) (by omega)
theorem File_lives1 : resF mkS mkF (bytesOf (⟨#[109, 101, 115, 104, 32, 49, 48, 32, 49, 32, 49, 10, 115, 105, 116, 101, 32, 48, 32, 51, 32, 52, 10, 102, 97, 99, 101, 32, 48, 32, 48, 32, 48, 32, 48, 32, 49, 32, 48, 32, 48, 32, 48, 32, 45, 49, 10, 101, 110, 100, 10]⟩ : ByteArray)) = (10, 1, 1, [⟨0, 3, 4⟩], [⟨⟨0, 0, 0⟩, ⟨0, 1, 0⟩, ⟨0, 0, -1⟩⟩], 0, 0) := by rfl
theorem File_lives2 : resF mkS mkF (bytesOf (⟨#[109, 101, 115, 104, 32, 49, 48, 32, 49, 32, 49, 10, 102, 97, 99, 101, 32, 48, 32, 48, 32, 45, 48]⟩ : ByteArray)) = (0, 0, 0, [], [], 22, 17) := by rfl
theorem flives_f : Ev (fun k => zelligelaw24_lives.f k) true := by
  have h1 := FParse_f (⟨#[109, 101, 115, 104, 32, 49, 48, 32, 49, 32, 49, 10, 115, 105, 116, 101, 32, 48, 32, 51, 32, 52, 10, 102, 97, 99, 101, 32, 48, 32, 48, 32, 48, 32, 48, 32, 49, 32, 48, 32, 48, 32, 48, 32, 45, 49, 10, 101, 110, 100, 10]⟩ : ByteArray) (by decide)
  have h2 := FParse_f (⟨#[109, 101, 115, 104, 32, 49, 48, 32, 49, 32, 49, 10, 102, 97, 99, 101, 32, 48, 32, 48, 32, 45, 48]⟩ : ByteArray) (by decide)
  rw [File_lives1] at h1
  rw [File_lives2] at h2
  unfold zelligelaw24_lives.f
  refine Ev.bind h1 (Ev.bind h2 (Ev.congr (fun k => ?_) (Ev.now true)))
  rfl
end Go.Proofs.Ytgpepiefojjkaaa.Pt
