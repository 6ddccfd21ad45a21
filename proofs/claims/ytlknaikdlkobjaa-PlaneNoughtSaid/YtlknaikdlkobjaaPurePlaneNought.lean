/- PlaneNought: a target of weight 0, or of none that may be, is never taken; one is taken just if some weight counts. -/
import Derived.Test.YtlknaikdlkobjaaPWa
import Derived.Test.YtlknaikdlkobjaaQx19
import Derived.Test.YtlknaikdlkobjaaQxOp
open Go.Proofs.Ytlknaikdlkobjaa.Q in
def _root_.Go.Proofs.Ytlknaikdlkobjaa.Q.tollgatelaw10_PlaneNought.Pure2 : Prop := ∀ (l0 : List (S44)) (a1 : Nat), (∀ y ∈ l0, ok44 y) → (Go.Lit.float .f64 a1).wf = true → ∃ k, tollgatelaw10_PlaneNought.f k l0 a1 = some true
namespace Go.Proofs.Ytlknaikdlkobjaa.PP
open Go.RowKit Go.Proofs.Ytlknaikdlkobjaa.Q Go.Proofs.YtlknaikdlkobjaaW.PrintWords Go.Proofs.YtlknaikdlkobjaaW.PrintLast Go.Proofs.YtlknaikdlkobjaaW.PrintMore Go.Proofs.Ytlknaikdlkobjaa.FL
theorem wf_lt {b : Nat} (h : (Lit.float .f64 b).wf = true) : b < 18446744073709551616 := by
  simpa [Lit.wf] using h
/-- Where a pick lies. -/
theorem pick_at (t : Nat) (S : Nat → Nat) (d x : Nat) : ∀ (l : List S44) (i last : Nat), (pick t S d x l i last = last ∧ ∀ y ∈ l, cntW t y.f1 = 0) ∨ ∃ j y, l[j]? = some y ∧ 0 < cntW t y.f1 ∧ pick t S d x l i last = i + j
  | [], i, last => Or.inl ⟨rfl, by simp⟩
  | y :: l, i, last => by
    unfold pick
    by_cases h1 : 0 < cntW t y.f1
    · rw [if_pos h1]
      split
      · exact Or.inr ⟨0, y, rfl, h1, rfl⟩
      · rcases pick_at t S d x l (i + 1) i with ⟨e, _⟩ | ⟨j, z, hz, hc, e⟩
        · exact Or.inr ⟨0, y, rfl, h1, by rw [e]; rfl⟩
        · exact Or.inr ⟨j + 1, z, hz, hc, by rw [e]; omega⟩
    · rw [if_neg h1]
      rcases pick_at t S d x l (i + 1) last with ⟨e, he⟩ | ⟨j, z, hz, hc, e⟩
      · refine Or.inl ⟨e, fun z hz => ?_⟩
        rcases List.mem_cons.1 hz with rfl | hz
        · omega
        · exact he z hz
      · exact Or.inr ⟨j + 1, z, hz, hc, by rw [e]; omega⟩
theorem weigh_at (l : List S44) (hl : l.length ≤ 40) (d : Nat) : (weighF l d = (0, false) ∧ ¬ ∃ y ∈ l, 0 < y.f1 ∧ y.f1 < INF) ∨ ∃ j : Nat, weighF l d = ((j : Int), true) ∧ j < l.length ∧ 0 < (rd_T44 l (j : Int)).f1 ∧ (rd_T44 l (j : Int)).f1 < INF ∧ ∃ y ∈ l, 0 < y.f1 ∧ y.f1 < INF := by
  unfold weighF
  by_cases h : 0 < allW l
  · rw [if_pos h]
    have hex := (all_pos l hl).1 h
    rcases pick_at (TT l) (fun i => sumAt (TT l) (l.take (i + 1))) (eff d) (prodS (eff d) (allW l)) l 0 0 with ⟨_, he⟩ | ⟨j, y, hy, hc, e⟩
    · exfalso
      have := sum_zero (TT l) l he
      unfold allW at h
      omega
    · obtain ⟨hj, hy2⟩ := List.getElem?_eq_some_iff.1 hy
      have hrd : rd_T44 l (j : Int) = y := by
        simp [rd_T44, List.getD_eq_getElem?_getD, hy]
      obtain ⟨c1, c2⟩ := cntW_pos hc
      exact Or.inr ⟨j, by rw [e, Nat.zero_add], hj, by rw [hrd]; exact c1, by rw [hrd]; exact c2, hex⟩
  · rw [if_neg h]
    exact Or.inl ⟨rfl, fun hx => h ((all_pos l hl).2 hx)⟩
end Go.Proofs.Ytlknaikdlkobjaa.PP
namespace Go.Proofs.Ytlknaikdlkobjaa.Pure
open Go.RowKit Go.Proofs.Ytlknaikdlkobjaa.Q Go.Proofs.Ytlknaikdlkobjaa.PP Go.Proofs.YtlknaikdlkobjaaW.PrintWords Go.Proofs.YtlknaikdlkobjaaW.PrintLast Go.Proofs.YtlknaikdlkobjaaW.PrintMore Go.Proofs.Ytlknaikdlkobjaa.FL
theorem weight_is (w : Nat) : tollgateref08_Weight.f w = some (decide (w < INF)) := by
  unfold tollgateref08_Weight.f
  have e : decide ((w : Int) < 9218868437227405312) = decide (w < INF) := by
    rw [decide_eq_decide]
    unfold INF
    omega
  rw [e]
def countsB (y : S44) : Bool := decide (0 < y.f1 ∧ y.f1 < INF)
theorem Nought_loop (l : List S44) (hl : l.length ≤ 40) (hw : ∀ y ∈ l, y.f1 < 18446744073709551616) (d : Nat) : ∀ (n i : Nat), i + n = l.length →
    Ev (fun k => tollgatelaw10_PlaneNought.l0 k l (weighF l d).1 (weighF l d).2 ((l.take i).any countsB) (i : Int)) true := by
  intro n
  induction n with
  | zero =>
    intro i hi
    refine Ev.step (fun k => by simp only [tollgatelaw10_PlaneNought.l0]; rfl) (Ev.neg (by omega) ?_)
    rw [List.take_of_length_le (by omega)]
    have hany : l.any countsB = true ↔ ∃ y ∈ l, 0 < y.f1 ∧ y.f1 < INF := by
      rw [List.any_eq_true]
      simp [countsB]
    rcases weigh_at l hl d with ⟨e, hn⟩ | ⟨j, e, hj, c1, c2, hex⟩
    · rw [e]
      have hf : l.any countsB = false := by
        rw [← Bool.not_eq_true]
        exact fun h => hn (hany.1 h)
      rw [hf]
      exact Ev.neg (by simp) (Ev.bind live_is (Ev.pos rfl (Ev.neg (by simp) (Ev.ret rfl))))
    · rw [e, hany.2 hex]
      refine Ev.pos rfl (Ev.bind live_is (Ev.pos rfl (Ev.pos rfl (Ev.pos (by omega) (Ev.pos (by omega) (Ev.pos (by omega) (Ev.call (weight_is _) (Ev.pos (decide_eq_true c2) (Ev.ret ?_)))))))))
      rw [fgtr_nn (Nat.le_of_lt c2) (Nat.zero_le _)]
      exact decide_eq_true c1
  | succ n ih =>
    intro i hi
    have h1 : i < l.length := by omega
    have hst : wrap64 ((i : Int) + 1) = ((i + 1 : Nat) : Int) := by unfold wrap64; omega
    have hn := ih (i + 1) (by omega)
    rw [rd44_take h1, List.any_append] at hn
    simp only [List.any_cons, List.any_nil, Bool.or_false] at hn
    refine Ev.step (fun k => by simp only [tollgatelaw10_PlaneNought.l0]; rfl) (Ev.pos (by omega) ?_)
    rw [hst]
    by_cases h2 : (l.take i).any countsB = true
    · rw [h2] at hn ⊢
      exact Ev.pos rfl hn
    · rw [Bool.not_eq_true] at h2
      rw [h2] at hn ⊢
      refine Ev.neg (by simp) (Ev.pos (by omega) (Ev.call (weight_is _) ?_))
      have hwi := hw _ (rd44_mem h1)
      by_cases h3 : (rd_T44 l (i : Int)).f1 < INF
      · refine Ev.pos (decide_eq_true h3) ?_
        have : fgtr (rd_T44 l (i : Int)).f1 0 = countsB (rd_T44 l (i : Int)) := by
          rw [fgtr_nn (Nat.le_of_lt h3) (Nat.zero_le _)]
          unfold countsB
          rw [decide_eq_decide]
          exact ⟨fun h => ⟨h, h3⟩, fun h => h.1⟩
        rw [this]
        rw [Bool.false_or] at hn
        exact hn
      · refine Ev.neg (by simp only [decide_eq_true_eq]; exact h3) ?_
        have : countsB (rd_T44 l (i : Int)) = false := decide_eq_false (fun h => h3 h.2)
        rw [this] at hn
        exact hn
theorem PlaneNought : tollgatelaw10_PlaneNought.Pure2 := by
  intro l d hok hd
  refine Ev.rounds (r := true) ?_
  unfold tollgatelaw10_PlaneNought.f tollgatelaw10_few.f
  have hl : (l.take 40).length ≤ 40 := by rw [List.length_take]; omega
  have hw : ∀ y ∈ l.take 40, y.f1 < 18446744073709551616 := fun y hy => wf_lt (hok y (List.mem_of_mem_take hy)).2
  refine Ev.put (Ev.bind (Weigh_is _ hl hw d (wf_lt hd)) ?_)
  exact Nought_loop (l.take 40) hl hw d (l.take 40).length 0 (by omega)
end Go.Proofs.Ytlknaikdlkobjaa.Pure
