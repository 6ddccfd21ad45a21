/- PlaneLongest: no route of the host that fits is longer than the one that is found. -/
import Derived.Test.YtlknaikdlkobjaaPPc
import Derived.Test.YtlknaikdlkobjaaQx17
import Derived.Test.YtlknaikdlkobjaaQxOp
open Go.Proofs.Ytlknaikdlkobjaa.Q in
def _root_.Go.Proofs.Ytlknaikdlkobjaa.Q.tollgatelaw10_PlaneLongest.Pure2 : Prop := ∀ (y0 : S25) (a1 : ByteArray) (a2 : ByteArray), ok25 y0 → a1.size ≤ 140737488351232 → a2.size ≤ 140737488351232 → ∃ k, tollgatelaw10_PlaneLongest.f k y0.f0 y0.f1 y0.f2 a1 a2 = some true
namespace Go.Proofs.Ytlknaikdlkobjaa.Pure
open Go.RowKit Go.Proofs.Ytlknaikdlkobjaa.Q Go.Proofs.Ytlknaikdlkobjaa.PP Go.Proofs.YtlknaikdlkobjaaW.PrintWords Go.Proofs.YtlknaikdlkobjaaW.PrintLast Go.Proofs.YtlknaikdlkobjaaW.PrintMore
def eqF (x : S30) (F : PP.Found) : Bool := x.f0.toList == F.1.toList && (x.f1.toList == F.2.1.toList && (x.f2.toList == F.2.2.1.toList))
theorem Longest_loop (v : Int) (l : List S30) (ps : List S53) (h s : ByteArray) (hl : l.length ≤ 200) (hs : s.size ≤ 4611686018427387904) (F : PP.Found)
    (hall : ∀ x ∈ l, may h s x = true → F.2.2.2 = true ∧ x.f1.size ≤ F.2.1.size) (hF : F.2.2.2 = true → F.1.toList = h.toList ∧ fitsB F.2.1 s = true) : ∀ (d i : Nat), i + d = l.length → ∀ (there : Bool), (there = true → F.2.2.2 = true) → (F.2.2.2 = true → there = true ∨ ∃ x ∈ l.drop i, may h s x = true ∧ eqF x F = true) →
    Ev (fun k => tollgatelaw10_PlaneLongest.l0 k h s F.2.2.2 there (i : Int) v l ps F.1 F.2.1 F.2.2.1) true := by
  intro d
  induction d with
  | zero =>
    intro i hi there ht hf
    rw [List.drop_eq_nil_of_le (by omega)] at hf
    refine Ev.step (fun k => by simp only [tollgatelaw10_PlaneLongest.l0]; rfl) (Ev.neg (by omega) (Ev.bind live_is (Ev.pos rfl ?_)))
    by_cases hF2 : F.2.2.2 = true
    · have : there = true := by
        rcases hf hF2 with h | ⟨x, hx, _⟩
        · exact h
        · simp at hx
      obtain ⟨e1, e2⟩ := hF hF2
      exact Ev.pos (by rw [hF2, this]; rfl) (Ev.pos hF2 (Ev.pos e1 (Ev.bind (rFits_is F.2.1 s hs) (Ev.ret e2))))
    · have : there = false := by
        cases there with
        | false => rfl
        | true => exact absurd (ht rfl) hF2
      exact Ev.pos (by rw [this]; simpa using hF2) (Ev.neg hF2 (Ev.ret rfl))
  | succ d ih =>
    intro i hi there ht hf
    have h1 : i < l.length := by omega
    have hdr := rd_drop h1
    generalize hr : rd_T30 l (i : Int) = r at hdr
    have hmem : r ∈ l := List.mem_of_mem_drop (i := i) (by rw [hdr]; exact List.mem_cons_self)
    have skip : may h s r = false → Ev (fun k => tollgatelaw10_PlaneLongest.j1 k h s F.2.2.2 there (i : Int) true v l ps F.1 F.2.1 F.2.2.1 r.f0 r.f1 r.f2) true := by
      intro hm
      refine Ev.step (fun k => by simp only [tollgatelaw10_PlaneLongest.j1]; rfl) ?_
      refine Ev.pos trivial ?_
      rw [step64 h1 (by omega)]
      refine ih (i + 1) (by omega) there ht (fun hF2 => ?_)
      rcases hf hF2 with h | ⟨x, hx, hx1, hx2⟩
      · exact Or.inl h
      · rw [hdr] at hx
        rcases List.mem_cons.1 hx with rfl | hx
        · rw [hm] at hx1; cases hx1
        · exact Or.inr ⟨x, hx, hx1, hx2⟩
    refine Ev.step (fun k => by simp only [tollgatelaw10_PlaneLongest.l0]; rw [hr]) (Ev.pos (by omega) (Ev.pos (by omega) ?_))
    by_cases h2 : r.f0.toList = h.toList
    · refine Ev.pos h2 (Ev.bind (rFits_is r.f1 s hs) ?_)
      by_cases h4 : fitsB r.f1 s = true
      · have hm : may h s r = true := by unfold may; rw [h2, h4]; simp
        obtain ⟨a1, a2⟩ := hall r hmem hm
        rw [h4]
        refine Ev.step (fun k => by simp only [tollgatelaw10_PlaneLongest.j1]; rfl) (Ev.neg (by simp) (Ev.pos a1 (Ev.neg (by omega) ?_)))
        rw [step64 h1 (by omega)]
        by_cases h5 : there = true
        · refine Ev.pos h5 (ih (i + 1) (by omega) true (fun _ => a1) (fun _ => Or.inl rfl))
        · refine Ev.neg h5 (ih (i + 1) (by omega) (eqF r F) (fun _ => a1) (fun _ => ?_))
          rcases hf a1 with h | ⟨x, hx, hx1, hx2⟩
          · exact absurd h h5
          · rw [hdr] at hx
            rcases List.mem_cons.1 hx with rfl | hx
            · exact Or.inl hx2
            · exact Or.inr ⟨x, hx, hx1, hx2⟩
      · have hm : may h s r = false := by unfold may; simp [h4]
        rw [show fitsB r.f1 s = false by simpa using h4]
        exact skip hm
    · have hm : may h s r = false := by unfold may; simp [h2]
      exact Ev.neg h2 (skip hm)
theorem PlaneLongest : tollgatelaw10_PlaneLongest.Pure2 := by
  intro c h s hc hh hs
  refine Ev.rounds (r := true) ?_
  unfold tollgatelaw10_PlaneLongest.f
  obtain ⟨b, hb, hq⟩ := short_is c.f0 c.f1 c.f2
  refine Ev.bind hb ?_
  cases b with
  | false => exact Ev.neg (by simp) (Ev.bind live_is (Ev.ret rfl))
  | true =>
    obtain ⟨h1, h2, h3⟩ := hq rfl
    refine Ev.pos rfl (Ev.bind (Find_is _ _ _ h s (by omega) (by show c.f1.length ≤ _; omega)) ?_)
    obtain ⟨_, i2, i3⟩ := fold_inv h s c.f1 nofound
    refine Longest_loop c.f0 c.f1 c.f2 h s h1 (by omega) (findF h s c.f1) i2 (fun hF => ?_) c.f1.length 0 (by omega) false (by simp) (fun hF => ?_)
    · rcases i3 with e | ⟨r, hr, hm, e⟩
      · unfold findF at hF; rw [e] at hF; cases hF
      · unfold findF; rw [e]; exact may_fits hm
    · rcases i3 with e | ⟨r, hr, hm, e⟩
      · unfold findF at hF; rw [e] at hF; cases hF
      · refine Or.inr ⟨r, by rw [List.drop_zero]; exact hr, hm, ?_⟩
        unfold findF; rw [e]; unfold eqF; simp
end Go.Proofs.Ytlknaikdlkobjaa.Pure
