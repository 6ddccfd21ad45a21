/- PlaneRises: with a greater draw no earlier target is taken; NaN and what is below 0 take what 0 takes. -/
import Derived.Test.YtlknaikdlkobjaaPWb
import Derived.Test.YtlknaikdlkobjaaQx24
import Derived.Test.YtlknaikdlkobjaaQxOp
open Go.Proofs.Ytlknaikdlkobjaa.Q in
def _root_.Go.Proofs.Ytlknaikdlkobjaa.Q.tollgatelaw10_PlaneRises.Pure2 : Prop := ∀ (l0 : List (S44)) (a1 : Nat) (a2 : Nat), (∀ y ∈ l0, ok44 y) → (Go.Lit.float .f64 a1).wf = true → (Go.Lit.float .f64 a2).wf = true → ∃ k, tollgatelaw10_PlaneRises.f k l0 a1 a2 = some true
namespace Go.Proofs.Ytlknaikdlkobjaa.Pure
open Go.RowKit Go.Proofs.Ytlknaikdlkobjaa.Q Go.Proofs.Ytlknaikdlkobjaa.PP Go.Proofs.YtlknaikdlkobjaaW.PrintWords Go.Proofs.YtlknaikdlkobjaaW.PrintLast Go.Proofs.YtlknaikdlkobjaaW.PrintMore Go.Proofs.Ytlknaikdlkobjaa.FL
theorem Rises_j (l : List S44) (hl : l.length ≤ 40) (hw : ∀ y ∈ l, y.f1 < 18446744073709551616) (a b : Nat) (ha : a < 18446744073709551616) (hb : b < 18446744073709551616) : Ev (fun k => tollgatelaw10_PlaneRises.j0 k l a b) true := by
  have W := fun d (hd : d < 18446744073709551616) => Weigh_is l hl hw d hd
  refine Ev.step (fun k => by simp only [tollgatelaw10_PlaneRises.j0]; rfl) ?_
  refine Ev.bind (W a ha) (Ev.bind (W b hb) (Ev.bind (W 0 (by omega)) (Ev.call rfl (Ev.bind (W 9221120237041090561 (by omega)) (Ev.call rfl (Ev.bind (W 18442240474082181120 (by omega)) ?_))))))
  have e1 : weighF l 9221120237041090561 = weighF l 0 := weigh_eff (by decide)
  have e2 : weighF l 18442240474082181120 = weighF l 0 := weigh_eff (by decide)
  rw [e1, e2]
  have s : ∀ d d', ((weighF l d).2 != (weighF l d').2) = false := fun d d' => by rw [weigh_snd, weigh_snd]; simp
  refine Ev.neg (by rw [s]; simp) (Ev.neg (by rw [s]; simp) (Ev.neg (by rw [s]; simp) (Ev.neg (by rw [s]; simp) (Ev.pos rfl (Ev.pos rfl (Ev.bind live_is (Ev.pos rfl ?_)))))))
  have hlt : flss a 0 = true → ((weighF l a).1 == (weighF l 0).1) = true := by
    intro h
    have : eff a = eff 0 := by
      unfold eff
      by_cases h1 : a ≤ INF
      · rw [flss_is h1 (Nat.zero_le _)] at h
        have := of_decide_eq_true h
        omega
      · rw [if_neg h1]; rfl
    rw [weigh_eff this]
    simp
  by_cases h1 : fleq a b = true
  · refine Ev.pos h1 (Ev.pos ?_ ?_)
    · refine weigh_mono (eff_mono hb ?_)
      unfold fleq at h1
      simpa using h1
    · by_cases h2 : flss a 0 = true
      · exact Ev.pos h2 (Ev.ret (hlt h2))
      · exact Ev.neg h2 (Ev.ret rfl)
  · refine Ev.neg h1 ?_
    by_cases h2 : flss a 0 = true
    · exact Ev.pos h2 (Ev.ret (hlt h2))
    · exact Ev.neg h2 (Ev.ret rfl)
theorem PlaneRises : tollgatelaw10_PlaneRises.Pure2 := by
  intro l a b hok ha hb
  refine Ev.rounds (r := true) ?_
  unfold tollgatelaw10_PlaneRises.f tollgatelaw10_few.f
  have wf_lt : ∀ {b : Nat}, (Lit.float .f64 b).wf = true → b < 18446744073709551616 := fun h => by simpa [Lit.wf] using h
  have hl : (l.take 40).length ≤ 40 := by rw [List.length_take]; omega
  have hw : ∀ y ∈ l.take 40, y.f1 < 18446744073709551616 := fun y hy => wf_lt (hok y (List.mem_of_mem_take hy)).2
  refine Ev.put ?_
  by_cases h : fgtr a b = true
  · exact Ev.pos h (Rises_j _ hl hw b a (wf_lt hb) (wf_lt ha))
  · exact Ev.neg h (Rises_j _ hl hw a b (wf_lt ha) (wf_lt hb))
end Go.Proofs.Ytlknaikdlkobjaa.Pure
