/- PlaneGreat: weights whose sum is too great for a float count by their parts of it. The draws of one share lie between its first and its last; these few are computed, all else is in order. -/
import Derived.Test.YtlknaikdlkobjaaPGa
import Derived.OpenShut
import Derived.Test.YtlknaikdlkobjaaQx22
namespace Go.Proofs.Ytlknaikdlkobjaa.Pure
open Go.RowKit Go.Proofs.Ytlknaikdlkobjaa.Q Go.Proofs.Ytlknaikdlkobjaa.PP Go.Proofs.YtlknaikdlkobjaaW.PrintWords Go.Proofs.YtlknaikdlkobjaaW.PrintLast Go.Proofs.YtlknaikdlkobjaaW.PrintMore Go.Proofs.Ytlknaikdlkobjaa.FL
theorem Great_body (n i far : Nat) (hn : n < 4) (hi : i < 2 * 2 ^ n) (hf : far < 256) :
    Ev (fun k => tollgatelaw10_PlaneGreat.l0 k (far : Int) ((2 * 2 ^ n : Nat) : Int) (i : Int) (List.replicate (2 * 2 ^ n) great) ((2 * 2 ^ n : Nat) : Int)) true := by
  have h1 := List.all_eq_true.1 (List.all_eq_true.1 (List.all_eq_true.1 okG_all n (List.mem_range.2 hn)) i (List.mem_range.2 hi)) far (List.mem_range.2 hf)
  have h2 := List.all_eq_true.1 (List.all_eq_true.1 endsG_all n (List.mem_range.2 hn)) i (List.mem_range.2 hi)
  have h3 := List.all_eq_true.1 lastG_all n (List.mem_range.2 hn)
  have hm16 : 2 * 2 ^ n ≤ 16 ∧ 1 ≤ 2 * 2 ^ n := by
    have : n = 0 ∨ n = 1 ∨ n = 2 ∨ n = 3 := by omega
    rcases this with rfl | rfl | rfl | rfl <;> decide
  generalize 2 * 2 ^ n = m at *
  unfold okG at h1
  simp only [Bool.and_eq_true, decide_eq_true_eq] at h1
  obtain ⟨o1, o2, o3, o4, o5, o6, o7⟩ := h1
  unfold endsG at h2
  rw [Bool.and_eq_true, beq_iff_eq, beq_iff_eq] at h2
  rw [beq_iff_eq] at h3
  have hl : (List.replicate m great).length ≤ 40 := by rw [List.length_replicate]; omega
  have hw : ∀ y ∈ List.replicate m great, y.f1 < 18446744073709551616 := by
    intro y hy
    rw [(List.mem_replicate.1 hy).2]
    decide
  have hd : drawG m i far < 18446744073709551616 := by unfold INF at o7; omega
  have hW : weighF (List.replicate m great) (drawG m i far) = ((i : Int), true) := weigh_between (by omega) o5 o6 o7 h2.1 h2.2
  refine Ev.step (fun k => by simp only [tollgatelaw10_PlaneGreat.l0]; rfl) (Ev.neg (by omega) (Ev.pos o1 (Ev.pos o2 (Ev.pos o3 (Ev.pos o4 ?_)))))
  have b1 := Weigh_is (List.replicate m great) hl hw (drawG m i far) hd
  have b2 := Weigh_is (List.replicate m great) hl hw INF (by decide)
  rw [hW] at b1
  rw [h3] at b2
  refine Ev.bind b1 (Ev.call (show math_Inf.f 1 = some INF from rfl) (Ev.bind b2 (Ev.bind live_is (Ev.pos rfl (Ev.pos rfl (Ev.pos rfl (Ev.pos rfl (Ev.ret ?_))))))))
  rw [show wrap64 ((m : Int) - 1) = ((m - 1 : Nat) : Int) by unfold wrap64; omega]
  simp
theorem Great_loop (m i far : Nat) (hm : m ≤ 16) (h : Ev (fun k => tollgatelaw10_PlaneGreat.l0 k (far : Int) (m : Int) (i : Int) (List.replicate m great) (m : Int)) true) : ∀ (d j : Nat), j + d = m →
    Ev (fun k => tollgatelaw10_PlaneGreat.l0 k (far : Int) (m : Int) (i : Int) (List.replicate j great) (j : Int)) true := by
  intro d
  induction d with
  | zero =>
    intro j hj
    obtain rfl : j = m := by omega
    exact h
  | succ d ih =>
    intro j hj
    refine Ev.step (fun k => by simp only [tollgatelaw10_PlaneGreat.l0]; rfl) (Ev.pos (by omega) (Ev.pos (by rw [List.length_replicate]; omega) ?_))
    have hst : wrap64 ((j : Int) + 1) = ((j + 1 : Nat) : Int) := by unfold wrap64; omega
    rw [hst]
    have := ih (j + 1) (by omega)
    rw [List.replicate_succ'] at this
    exact this
theorem PlaneGreat : tollgatelaw10_PlaneGreat.Pure := by
  intro a0 a1 a2 w0 w1 w2
  refine Ev.rounds (r := true) ?_
  have b0 := bounds_u8 w0
  have b1 := bounds_u8 w1
  have b2 := bounds_u8 w2
  unfold tollgatelaw10_PlaneGreat.f
  obtain ⟨z, rfl⟩ : ∃ z : Nat, a0 = (z : Int) := ⟨a0.toNat, by omega⟩
  obtain ⟨n, hn, hn4⟩ : ∃ n : Nat, Int.tmod (z : Int) 4 = (n : Int) ∧ n < 4 := ⟨z % 4, rfl, Nat.mod_lt _ (by omega)⟩
  obtain ⟨far, rfl⟩ : ∃ far : Nat, a2 = (far : Int) := ⟨a2.toNat, by omega⟩
  rw [hn]
  have hs : shl .i64 2 (n : Int) = ((2 * 2 ^ n : Nat) : Int) := by
    have : n = 0 ∨ n = 1 ∨ n = 2 ∨ n = 3 := by omega
    rcases this with rfl | rfl | rfl | rfl <;> decide
  have hm16 : 2 * 2 ^ n ≤ 16 ∧ 1 ≤ 2 * 2 ^ n := by
    have : n = 0 ∨ n = 1 ∨ n = 2 ∨ n = 3 := by omega
    rcases this with rfl | rfl | rfl | rfl <;> decide
  rw [hs]
  have hw : wrap64 a1 = a1 := by unfold wrap64; omega
  rw [hw]
  obtain ⟨x, rfl⟩ : ∃ x : Nat, a1 = (x : Int) := ⟨a1.toNat, by omega⟩
  have ht : Int.tmod (x : Int) ((2 * 2 ^ n : Nat) : Int) = ((x % (2 * 2 ^ n) : Nat) : Int) := rfl
  rw [ht]
  refine Ev.pos (by omega) (Ev.neg (by omega) ?_)
  have hb := Great_body n (x % (2 * 2 ^ n)) far hn4 (Nat.mod_lt _ (by omega)) (by omega)
  exact Great_loop (2 * 2 ^ n) _ far hm16.1 hb (2 * 2 ^ n) 0 (by omega)
end Go.Proofs.Ytlknaikdlkobjaa.Pure
