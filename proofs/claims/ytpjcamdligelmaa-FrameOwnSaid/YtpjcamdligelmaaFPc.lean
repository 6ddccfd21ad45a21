/- What stands at a frame's place; all frames from the beginning on, by the program's All and the reference's. -/
import Derived.Test.YtpjcamdligelmaaFPb
import Derived.Test.YtpjcamdligelmaaQx19
import Derived.Test.YtpjcamdligelmaaQx21
import Derived.Test.YtpjcamdligelmaaQx22
namespace Go.Proofs.Ytpjcamdligelmaa.FP
open Go.RowKit Go.Proofs.Ytpjcamdligelmaa.Q Go.Proofs.YtpjcamdligelmaaW.PrintWords Go.Proofs.YtpjcamdligelmaaW.PrintLast Go.Proofs.YtpjcamdligelmaaW.PrintMore

theorem nextOf_ok {l : List Int} {a : Int} (h : (nextOf l a).2.2 = 0) : 0 ≤ a ∧ a ≤ l.length ∧ 8 ≤ (l.drop a.toNat).length ∧ get4 (l.drop a.toNat) ≤ 65536 ∧ get4 (l.drop a.toNat) ≤ ((l.drop a.toNat).length : Int) - 8 ∧ nextOf l a = (((l.drop a.toNat).drop 8).take (get4 (l.drop a.toNat)).toNat, a + 8 + get4 (l.drop a.toNat), 0) := by
  unfold nextOf at h ⊢
  split at h
  · cases h
  rename_i h1
  split at h
  · cases h
  rename_i h2
  split at h
  · cases h
  rename_i h3
  split at h
  · cases h
  rename_i h4
  split at h
  · cases h
  rename_i h5
  rw [if_neg h1, if_neg h2, if_neg h3, if_neg h4, if_neg h5]
  exact ⟨by omega, by omega, by omega, by omega, by omega, rfl⟩
theorem nextOf_moves {l : List Int} {a : Int} (hB : B8 l) (h : (nextOf l a).2.2 = 0) : 0 ≤ a ∧ a + 8 ≤ (nextOf l a).2.1 ∧ (nextOf l a).2.1 ≤ l.length := by
  obtain ⟨h0, h1, h2, h3, h4, h5⟩ := nextOf_ok h
  have hr := get4_range (B8_drop hB a.toNat)
  rw [h5, List.length_drop] at *
  refine ⟨h0, ?_, ?_⟩ <;> dsimp only <;> omega
theorem nextOf_B8 {l : List Int} {a : Int} (hB : B8 l) : B8 (nextOf l a).1 := by
  by_cases h : (nextOf l a).2.2 = 0
  · obtain ⟨_, _, _, _, _, h5⟩ := nextOf_ok h
    rw [h5]
    exact B8_take (B8_drop (B8_drop hB _) 8) _
  · have : (nextOf l a).1 = [] := by
      unfold nextOf at h ⊢
      split
      · rfl
      rename_i h1
      rw [if_neg h1] at h
      split
      · rfl
      rename_i h2
      rw [if_neg h2] at h
      split
      · rfl
      rename_i h3
      rw [if_neg h3] at h
      split
      · rfl
      rename_i h4
      rw [if_neg h4] at h
      split
      · rfl
      rename_i h5
      rw [if_neg h5] at h
      exact absurd rfl h
    rw [this]
    intro x hx
    cases hx
/-- A FRAME IS READ WHERE IT STANDS. -/
theorem nextOf_frame (p b q : List Int) (hb : b.length ≤ 65536) : nextOf (p ++ (frameBytes b ++ q)) (p.length : Int) = (b, (p.length : Int) + 8 + (b.length : Int), 0) := by
  have hFl := frameBytes_length b
  have hr := fextend_range (fextend 0 (four b.length)) b
  have hd : (p ++ (frameBytes b ++ q)).drop ((p.length : Int)).toNat = frameBytes b ++ q := by rw [Int.toNat_natCast]; exact List.drop_left' rfl
  have hg : get4 (frameBytes b ++ q) = (b.length : Int) := by unfold frameBytes; rw [List.append_assoc]; exact get4_four _ (by omega) (by omega) _
  have ht4 : (frameBytes b ++ q).take 4 = four b.length := by unfold frameBytes; rw [List.append_assoc]; exact List.take_left' (four_length _)
  have hd4 : (frameBytes b ++ q).drop 4 = four (fextend (fextend 0 (four b.length)) b) ++ (b ++ q) := by unfold frameBytes; rw [List.append_assoc, List.drop_left' (four_length _), List.append_assoc]
  have hd8 : (frameBytes b ++ q).drop 8 = b ++ q := by rw [show 8 = 4 + 4 from rfl, ← List.drop_drop, hd4]; exact List.drop_left' (four_length _)
  unfold nextOf
  rw [if_neg (by rw [List.length_append]; omega), hd, if_neg (by rw [List.length_append]; omega), hg, if_neg (by omega), if_neg (by rw [List.length_append]; omega), Int.toNat_natCast, ht4, hd8, List.take_left' rfl, hd4, get4_four _ hr.1 hr.2, if_neg (fun h => h rfl)]
/-- A FRAME THAT IS CUT SHORT IS NONE. -/
theorem nextOf_cut (p b : List Int) (hb : b.length ≤ 65536) (n : Nat) (hn : n < 8 + b.length) : nextOf (p ++ (frameBytes b).take n) (p.length : Int) = ([], 0, 3) := by
  have hFl := frameBytes_length b
  have hd : (p ++ (frameBytes b).take n).drop ((p.length : Int)).toNat = (frameBytes b).take n := by rw [Int.toNat_natCast]; exact List.drop_left' rfl
  have hl : ((frameBytes b).take n).length = n := by rw [List.length_take]; omega
  unfold nextOf
  rw [if_neg (by rw [List.length_append]; omega), hd]
  by_cases h8 : n < 8
  · rw [if_pos (by omega)]
  rw [if_neg (by omega)]
  have hg : get4 ((frameBytes b).take n) = (b.length : Int) := by
    rw [← get4_four (b.length : Int) (by omega) (by omega) (four (fextend (fextend 0 (four b.length)) b) ++ b)]
    change _ = get4 (frameBytes b)
    unfold get4
    simp only [List.getD_eq_getElem?_getD]
    rw [List.getElem?_take_of_lt (by omega), List.getElem?_take_of_lt (by omega), List.getElem?_take_of_lt (by omega), List.getElem?_take_of_lt (by omega)]
  rw [hg, if_neg (by omega), if_pos (by omega)]
/-! all of them -/
def allOf : Nat → List Int → List (List Int) → Int → List (List Int) × Int
  | 0, _, out, a => (out, a)
  | d + 1, l, out, a => if (nextOf l a).2.2 = 0 then allOf d l (out ++ [(nextOf l a).1]) (nextOf l a).2.1 else (out, a)
theorem allOf_stop {l : List Int} {a : Int} (h : (nextOf l a).2.2 ≠ 0) (out : List (List Int)) : ∀ d, allOf d l out a = (out, a)
  | 0 => rfl
  | d + 1 => by simp only [allOf]; rw [if_neg h]
theorem All_loop (l : List Int) (hl : l.length ≤ 140737488351232) (hB : B8 l) : ∀ (d : Nat) (out : List (List Int)) (a : Int), 0 ≤ a → a ≤ l.length → (l.length : Int) - a < 8 * (d : Int) → (out.length : Int) * 8 + ((l.length : Int) - a) < 46912496118440 →
    Ev (fun k => frame_All.l0 k l out a) (allOf d l out a) ∧ Ev (fun k => tollgateref01_All.l0 k l out a) (allOf d l out a) := by
  intro d
  induction d with
  | zero => intro out a h0 h1 h2 h3; omega
  | succ d ih =>
    intro out a h0 h1 h2 h3
    by_cases he : (nextOf l a).2.2 = 0
    · obtain ⟨_, hm1, hm2⟩ := nextOf_moves hB he
      obtain ⟨i1, i2⟩ := ih (out ++ [(nextOf l a).1]) (nextOf l a).2.1 (by omega) hm2 (by omega) (by rw [List.length_append, List.length_singleton]; omega)
      have hd : allOf (d + 1) l out a = allOf d l (out ++ [(nextOf l a).1]) (nextOf l a).2.1 := by simp only [allOf]; rw [if_pos he]
      rw [hd]
      refine ⟨?_, ?_⟩
      · refine Ev.step (fun k => by simp only [frame_All.l0]; rfl) ?_
        exact Ev.call (Next_f hB a) (Ev.pos he (Ev.pos (by omega) i1))
      · refine Ev.step (fun k => by simp only [tollgateref01_All.l0]; rfl) ?_
        exact Ev.pos h1 (Ev.bind (rNext_is l a (by omega) hl hB) (Ev.pos he (Ev.pos (by omega) i2)))
    · have hd : allOf (d + 1) l out a = (out, a) := by simp only [allOf]; rw [if_neg he]
      rw [hd]
      refine ⟨?_, ?_⟩
      · refine Ev.step (fun k => by simp only [frame_All.l0]; rfl) ?_
        exact Ev.call (Next_f hB a) (Ev.neg he (Ev.now _))
      · refine Ev.step (fun k => by simp only [tollgateref01_All.l0]; rfl) ?_
        exact Ev.pos h1 (Ev.bind (rNext_is l a (by omega) hl hB) (Ev.neg he (Ev.now _)))
theorem All_is (l : List Int) (hl : l.length < 46912496118440) (hB : B8 l) (d : Nat) (hd : l.length < 8 * d) : Ev (fun k => frame_All.f k l) (allOf d l [] 0) :=
  (All_loop l (by omega) hB d [] 0 (by omega) (by omega) (by omega) (by rw [List.length_nil]; omega)).1
theorem rAll_is (l : List Int) (hl : l.length < 46912496118440) (hB : B8 l) (d : Nat) (hd : l.length < 8 * d) : Ev (fun k => tollgateref01_All.f k l) (allOf d l [] 0) :=
  (All_loop l (by omega) hB d [] 0 (by omega) (by omega) (by omega) (by rw [List.length_nil]; omega)).2
theorem Same_loop (x : List (List Int)) (hx : x.length ≤ 140737488351232) : ∀ (d : Nat) (i : Int), 0 ≤ i → i + (d : Int) = x.length → Ev (fun k => tollgateref01_SameRows.l0 k x x i) true := by
  intro d
  induction d with
  | zero =>
    intro i h0 h1
    exact Ev.step (f := fun _ => some true) (fun k => by simp only [tollgateref01_SameRows.l0]; rw [if_neg (by omega)]) (Ev.now _)
  | succ d ih =>
    intro i h0 h1
    refine Ev.step (fun k => by simp only [tollgateref01_SameRows.l0]; rfl) ?_
    refine Ev.pos (by omega) (Ev.pos h0 (Ev.pos (by omega) ?_))
    refine Ev.pos trivial ?_
    have hw : wrap64 (i + 1) = i + 1 := by unfold wrap64; omega
    rw [hw]
    exact ih (i + 1) (by omega) (by omega)
theorem Same_is (x : List (List Int)) (hx : x.length ≤ 140737488351232) : Ev (fun k => tollgateref01_SameRows.f k x x) true := by
  unfold tollgateref01_SameRows.f
  exact Ev.pos rfl (Same_loop x hx x.length 0 (by omega) (by omega))
theorem allOf_length (l : List Int) (hB : B8 l) : ∀ (d : Nat) (out : List (List Int)) (a : Int), 0 ≤ a → a ≤ l.length → ((allOf d l out a).1.length : Int) * 8 ≤ (out.length : Int) * 8 + ((l.length : Int) - a) := by
  intro d
  induction d with
  | zero => intro out a h0 h1; simp only [allOf]; omega
  | succ d ih =>
    intro out a h0 h1
    simp only [allOf]
    split
    · rename_i he
      obtain ⟨_, hm1, hm2⟩ := nextOf_moves hB he
      have := ih (out ++ [(nextOf l a).1]) (nextOf l a).2.1 (by omega) hm2
      rw [List.length_append, List.length_singleton] at this
      omega
    · dsimp only; omega
end Go.Proofs.Ytpjcamdligelmaa.FP
