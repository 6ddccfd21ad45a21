-- Laid by lay.py, a program of this session's, out of the translation (the kit's printer with additions of ours). Lean checks it.
import Derived.Test.YtlknaikdlkobjaaQx0
namespace Go.Proofs.Ytlknaikdlkobjaa.Q
open Go.RowKit Go.Proofs.YtlknaikdlkobjaaW.PrintWords Go.Proofs.YtlknaikdlkobjaaW.PrintLast Go.Proofs.YtlknaikdlkobjaaW.PrintMore
attribute [local go_sem] max2_int min2_int max_two min_two max_three min_three max_four min_four   -- for this text's walks alone
attribute [local go_sem] fbin_eql fbin_neq fbin_lss fbin_leq fbin_gtr fbin_geq frun_add frun_sub frun_mul frun_quo frun_store fun_neg fcv_int fcv_same fb27 fb28
set_option linter.unusedVariables false
set_option linter.unusedSimpArgs false

/-! ### tollgatelaw10_few: function 17 -/
def tollgatelaw10_few.f (l0 : List (S44)) : Option ((List (S44))) := some (l0.take 40)
theorem tollgatelaw10_few.kept {A : Option Addr} {c : Nat} {l r : List (S44)} {w : World} (h : tollgatelaw10_few.f l = some r) (hr : Kd.C k44 w A l.length l) (hc : l.length ≤ c) : Kd.C k44 w A r.length r ∧ r.length ≤ c := by
  obtain rfl := Option.some.inj h
  have hl : (l.take 40).length = (l.take (min l.length 40)).length := by rw [List.length_take, List.length_take]; omega
  have e : l.take 40 = l.take (min l.length 40) := by
    by_cases h : l.length ≤ 40
    · rw [Nat.min_eq_left h, List.take_of_length_le h, List.take_of_length_le (Nat.le_refl _)]
    · rw [Nat.min_eq_right (by omega)]
  rw [e]
  exact ⟨Kd.C_take hr (by omega), by rw [List.length_take]; omega⟩
set_option maxHeartbeats 1000000 in
theorem tollgatelaw10_few.calls (A0 : Option Addr) (c0 : Nat) (l0 r : List (S44)) (w : World) (hr0 : Kd.C k44 w A0 l0.length l0) (hc0 : l0.length ≤ c0) (h : tollgatelaw10_few.f l0 = some r) :
    Calls Try.prog 17 #[.slice A0 l0.length c0] w fun e w' => e = .returned (.slice A0 r.length c0) ∧ Drawn0 w w' := by
  obtain rfl := Option.some.inj h
  obtain ⟨ji2, hji2⟩ : ∃ j_ : Int, (mn (l0.length : Int) 40) = j_ := ⟨_, rfl⟩
  have hji2_ : (if 40 < (l0.length : Int) then 40 else (l0.length : Int)) = ji2 := hji2
  have hj0 : 0 ≤ ji2 := by rw [← hji2]; unfold mn; split <;> omega
  have hj1 : ji2 ≤ (l0.length : Int) := by rw [← hji2]; unfold mn; split <;> omega
  have hl : (l0.take 40).length = ji2.toNat := by rw [List.length_take, ← hji2]; unfold mn; split <;> omega
  obtain ⟨i0, hi0, _, hsz, _⟩ := info_parts info44
  have hcut := cut_to (P := Try.prog) 37 44 .i64 Try.underlying37 hi0 A0 l0.length c0 ji2 hj0 hj1 hc0
  rw [hl]
  go_enter Try.func17, Try.ntmps17
  go_wp2
  go_ret
  exact ⟨rfl, 0, rfl⟩


/-! ### tollgateref08_Weight: function 19 -/
def tollgateref08_Weight.f (a0 : Nat) : Option (Bool) := some (decide ((a0 : Int) < 9218868437227405312))
set_option maxHeartbeats 8000000 in
set_option maxRecDepth 100000 in
theorem tollgateref08_Weight.calls (a0 : Nat) (r : Bool) (w : World) (h : tollgateref08_Weight.f a0 = some r) :
    Calls Try.prog 19 #[.float .f64 a0] w fun e w' => e = .returned (.bool r) ∧ Drawn0 w w' := by
  have H : (some (decide ((a0 : Int) < 9218868437227405312))) = some r := h
  clear h
  obtain rfl := Option.some.inj H
  go_enter Try.func19, Try.ntmps19
  go_wp2
  go_ret
  exact ⟨by first | rfl | (simp; done) | (simp [*]; done), by repeat (first | exact Drawn0.refl _ | apply Drawn0.step)⟩

end Go.Proofs.Ytlknaikdlkobjaa.Q
