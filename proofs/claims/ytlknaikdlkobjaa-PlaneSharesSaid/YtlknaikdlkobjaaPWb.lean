/- Weigh in order: with a greater draw no earlier target. -/
import Derived.Test.YtlknaikdlkobjaaPWa
namespace Go.Proofs.Ytlknaikdlkobjaa.PP
open Go.RowKit Go.Proofs.Ytlknaikdlkobjaa.Q Go.Proofs.YtlknaikdlkobjaaW.PrintWords Go.Proofs.YtlknaikdlkobjaaW.PrintLast Go.Proofs.YtlknaikdlkobjaaW.PrintMore Go.Proofs.Ytlknaikdlkobjaa.FL
theorem pick_ge (t : Nat) (S : Nat → Nat) (d x : Nat) : ∀ (l : List S44) (i last : Nat), last ≤ i → last ≤ pick t S d x l i last
  | [], _, _, _ => Nat.le_refl _
  | y :: l, i, last, h => by
    unfold pick
    split
    · split
      · exact h
      · exact Nat.le_trans h (pick_ge t S d x l (i + 1) i (by omega))
    · exact pick_ge t S d x l (i + 1) last (by omega)
theorem pick_mono (t : Nat) (S : Nat → Nat) {d d' x x' : Nat} (hd : d ≤ d') (hx : x ≤ x') : ∀ (l : List S44) (i last : Nat), pick t S d x l i last ≤ pick t S d' x' l i last
  | [], _, _ => Nat.le_refl _
  | y :: l, i, last => by
    unfold pick
    by_cases h1 : 0 < cntW t y.f1
    · rw [if_pos h1, if_pos h1]
      by_cases h2 : d' < ONE ∧ x' < S i
      · have h3 : d < ONE ∧ x < S i := ⟨Nat.lt_of_le_of_lt hd h2.1, Nat.lt_of_le_of_lt hx h2.2⟩
        rw [if_pos h2, if_pos h3]
        exact Nat.le_refl _
      · rw [if_neg h2]
        split
        · exact pick_ge t S d' x' l (i + 1) i (by omega)
        · exact pick_mono t S hd hx l (i + 1) i
    · rw [if_neg h1, if_neg h1]
      exact pick_mono t S hd hx l (i + 1) last
theorem weigh_snd (l : List S44) (d : Nat) : (weighF l d).2 = decide (0 < allW l) := by
  unfold weighF
  by_cases h : 0 < allW l
  · rw [if_pos h, decide_eq_true h]
  · rw [if_neg h, decide_eq_false h]
theorem weigh_eff {l : List S44} {d d' : Nat} (h : eff d = eff d') : weighF l d = weighF l d' := by
  unfold weighF
  rw [h]
theorem weigh_mono {l : List S44} {d d' : Nat} (h : eff d ≤ eff d') : (weighF l d).1 ≤ (weighF l d').1 := by
  unfold weighF
  split
  · show ((pick _ _ _ _ _ _ _ : Nat) : Int) ≤ ((pick _ _ _ _ _ _ _ : Nat) : Int)
    have := pick_mono (TT l) (fun i => sumAt (TT l) (l.take (i + 1))) h (prodS_mono (allW l) h) l 0 0
    omega
  · exact Int.le_refl _
/-- Between two draws that take one target, all draws take it. -/
theorem weigh_between {l : List S44} {a d b : Nat} {i : Nat} (_ : 0 ≤ a) (h1 : a ≤ d) (h2 : d ≤ b) (h3 : b ≤ INF) (ha : weighF l a = ((i : Int), true)) (hb : weighF l b = ((i : Int), true)) : weighF l d = ((i : Int), true) := by
  have e : ∀ z, z ≤ INF → eff z = z := fun z hz => if_pos hz
  have m1 := weigh_mono (l := l) (show eff a ≤ eff d by rw [e a (by omega), e d (by omega)]; exact h1)
  have m2 := weigh_mono (l := l) (show eff d ≤ eff b by rw [e d (by omega), e b h3]; exact h2)
  rw [ha] at m1
  rw [hb] at m2
  have s : (weighF l d).2 = true := by
    rw [weigh_snd, ← weigh_snd l a, ha]
  refine Prod.ext ?_ s
  show (weighF l d).1 = (i : Int)
  have m1 : (i : Int) ≤ (weighF l d).1 := m1
  have m2 : (weighF l d).1 ≤ (i : Int) := m2
  omega
end Go.Proofs.Ytlknaikdlkobjaa.PP
