import Derived.Test.YtaacjoeldgganaaSx1
import Derived.Test.YtaacjoeldgganaaSx16
import Derived.Test.YtaacjoeldgganaaSx7
import Derived.Test.YtaacjoeldgganaaTFp
import Derived.Test.YtaacjoeldgganaaTFh
/-! A message's bytes are bytes; a message is the same as itself; the last call's message; the sum of one letter. -/
namespace Go.Proofs.Ytaacjoeldgganaa.FP
open Go.RowKit Go.Proofs.Ytaacjoeldgganaa.S Go.Proofs.YtaacjoeldgganaaW.PrintWords Go.Proofs.YtaacjoeldgganaaW.PrintLast Go.Proofs.YtaacjoeldgganaaW.PrintMore
theorem B8_one {x : Int} (h : 0 ≤ x ∧ x ≤ 255) : B8 [x] := by
  intro y hy
  rw [List.mem_singleton] at hy
  subst hy
  exact h
def okM (m : S32) : Prop := B8 m.f11 ∧ ∀ e ∈ m.f10, B8 e.f3
theorem encE_B8 {e : S48} (h : wfE e) (hB : B8 e.f3) : B8 (encE e) := by
  obtain ⟨h1, h2, h3, h4, h5, h6, _⟩ := h
  unfold encE
  exact B8_append (B8_append (B8_append (B8_append (B8_one (by omega)) (enc_B8 (by omega))) (enc_B8 (by omega))) (enc_B8 (by omega))) hB
theorem encEs_B8 : ∀ {l : List S48}, (∀ e ∈ l, wfE e) → (∀ e ∈ l, B8 e.f3) → B8 (encEs l)
  | [], _, _ => by intro x hx; simp [encEs] at hx
  | e :: l, h, hB => by
    have c : encEs (e :: l) = encE e ++ encEs l := by simp [encEs]
    rw [c]
    exact B8_append (encE_B8 (h e (by simp)) (hB e (by simp))) (encEs_B8 (fun x hx => h x (by simp [hx])) (fun x hx => hB x (by simp [hx])))
theorem encM_B8 {m : S32} (h : wfM m) (hB : okM m) : B8 (encM m) := by
  obtain ⟨_, _, _, _, _, _, h3, h4, h5, h6, h7, h8, _, h10, _⟩ := h
  unfold encM
  refine B8_append ?_ (B8_append (enc_B8 h3.1) (B8_append (enc_B8 h4.1) (B8_append (enc_B8 h5.1) (B8_append (enc_B8 h6.1) (B8_append (enc_B8 h7.1) (B8_append (enc_B8 h8.1) (B8_append (enc_B8 (by omega)) (B8_append (encEs_B8 h10 hB.2) (B8_append (enc_B8 (by omega)) hB.1)))))))))
  intro x hx
  simp only [List.mem_cons, List.not_mem_nil, or_false] at hx
  rcases hx with rfl | rfl | rfl | rfl
  · omega
  · omega
  · omega
  · split <;> omega
theorem sameE_is (x : S48) : tollgateref02_SameEntry.f x.f0 x.f1 x.f2 x.f3 x.f0 x.f1 x.f2 x.f3 = some true := by
  unfold tollgateref02_SameEntry.f
  simp
theorem sameEs_loop (l : List S48) (hl : l.length < 140737488355328) : ∀ (d i : Nat), i + d = l.length → ∀ k, d < k → tollgateref02_SameEntries.l0 k l l (i : Int) = some true := by
  intro d
  induction d with
  | zero =>
    intro i hi k hk
    obtain ⟨k, rfl⟩ : ∃ j, k = j + 1 := ⟨k - 1, by omega⟩
    simp only [tollgateref02_SameEntries.l0]
    rw [if_neg (by omega)]
  | succ d ih =>
    intro i hi k hk
    obtain ⟨k, rfl⟩ : ∃ j, k = j + 1 := ⟨k - 1, by omega⟩
    simp only [tollgateref02_SameEntries.l0]
    rw [if_pos (by omega), if_pos (by omega), if_pos (by omega), sameE_is]
    simp only [Option.bind_some, if_true]
    have hw : wrap64 ((i : Int) + 1) = ((i + 1 : Nat) : Int) := by unfold wrap64; omega
    rw [hw]
    exact ih (i + 1) (by omega) k (by omega)
theorem same_is (m : S32) (hl : m.f10.length < 140737488355328) (k : Nat) (hk : m.f10.length < k) : tollgateref02_SameMsg.f k m.f0 m.f1 m.f2 m.f3 m.f4 m.f5 m.f6 m.f7 m.f8 m.f9 m.f10 m.f11 m.f0 m.f1 m.f2 m.f3 m.f4 m.f5 m.f6 m.f7 m.f8 m.f9 m.f10 m.f11 = some true := by
  unfold tollgateref02_SameMsg.f tollgateref02_SameEntries.f
  have h := sameEs_loop m.f10 hl m.f10.length 0 (by omega) k (by omega)
  simp at h
  simp [h]
def lastM : S32 := ⟨7, 1, 2, 1, 0, 0, 0, 0, 0, false, [], []⟩
theorem lastM_is : encM lastM = [7, 1, 2, 0, 1, 0, 0, 0, 0, 0, 0, 0] := by decide +kernel
theorem lastM_wf : wfM lastM := by
  unfold wfM lastM numOk
  simp
theorem sum_a : ∃ k r, frame_Sum.f k [97] = some r ∧ r ≠ 0 := by
  obtain ⟨K, h⟩ := Sum_is [97] (by simp) (B8_one (by omega))
  exact ⟨K, _, h K (Nat.le_refl _), by decide +kernel⟩
end Go.Proofs.Ytaacjoeldgganaa.FP
