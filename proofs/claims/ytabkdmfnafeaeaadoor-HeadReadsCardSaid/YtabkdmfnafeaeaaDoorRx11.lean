-- Laid by lay.py, a program of this session's, out of the translation (the kit's printer with additions of ours). Lean checks it.
import Derived.Test.YtabkdmfnafeaeaaDoorRx0
namespace Go.Proofs.YtabkdmfnafeaeaaDoor.R
open Go.RowKit Go.Proofs.YtabkdmfnafeaeaaDoorW.PrintWords Go.Proofs.YtabkdmfnafeaeaaDoorW.PrintLast Go.Proofs.YtabkdmfnafeaeaaDoorW.PrintMore
attribute [local go_sem] max2_int min2_int max_two min_two max_three min_three max_four min_four   -- for this text's walks alone
attribute [local go_sem] fbin_eql fbin_neq fbin_lss fbin_leq fbin_gtr fbin_geq frun_add frun_sub frun_mul frun_quo frun_store fun_neg fcv_int fcv_same fb92 fb116
set_option linter.unusedVariables false
set_option linter.unusedSimpArgs false

/-! ### bytes_Index: function 34 -/
def bytes_Index.f (l0 l1 : List Int) : Option Int := if (l0.all fun x => decide (0 ≤ x ∧ x < 256)) = true ∧ (l1.all fun x => decide (0 ≤ x ∧ x < 256)) = true ∧ l0.length < 4294967281 ∧ 2 ≤ l1.length ∧ l1.length ≤ 9223372036854775807 then some (Lib.index (Lib.bytesOf l0) (Lib.bytesOf l1)) else none
theorem bytes_Index.calls (A0 : Option Addr) (c0 : Nat) (l0 : List Int) (A1 : Option Addr) (c1 : Nat) (l1 : List Int) (r : Int) (w : World) (hml : ML w) (hr0 : Kd.C (Kd.int .u8) w A0 l0.length l0) (hc0 : l0.length ≤ c0) (hr1 : Kd.C (Kd.int .u8) w A1 l1.length l1) (hc1 : l1.length ≤ c1) (h : bytes_Index.f l0 l1 = some r) :
    Calls Tryd.prog 34 #[.slice A0 l0.length c0, .slice A1 l1.length c1] w fun e w' => e = .returned (.int .i64 r) ∧ Drawn0 w w' := by
  obtain ⟨m, hm⟩ := hml
  unfold bytes_Index.f at h
  split at h
  · rename_i hs
    obtain ⟨h1, h2, h3, h4, h5⟩ := hs
    obtain rfl := Option.some.inj h
    have b1 : ∀ x ∈ l0, 0 ≤ x ∧ x < 256 := fun x hx => of_decide_eq_true (List.all_eq_true.1 h1 x hx)
    have b2 : ∀ x ∈ l1, 0 ≤ x ∧ x < 256 := fun x hx => of_decide_eq_true (List.all_eq_true.1 h2 x hx)
    have hR0 := Kd.reads_of_C (d := (0 : Int)) hr0
    have hR1 := Kd.reads_of_C (d := (0 : Int)) hr1
    obtain ⟨ad1, rfl, hc1'⟩ := hR1.2.2 (by omega)
    by_cases hl : l0.length < l1.length
    · have hx : Lib.index (Lib.bytesOf l0) (Lib.bytesOf l1) = -1 := Lib.index_long (by simp [Lib.bytesOf]; omega) (fun e => by have := congrArg List.length e; simp [Lib.bytesOf] at this; omega)
      rw [hx]
      exact (Any.bytes_Index_longer Tryd.lays185 A0 (some ad1) l0.length c0 l1.length c1 w h4 hl h5).mono fun e w' ⟨p, q⟩ => ⟨p, 0, q⟩
    · obtain ⟨ad0, rfl, hc0'⟩ := hR0.2.2 (by omega)
      exact (Tryd.bytes_Index_at ad0 ad1 l0.length c0 l1.length c1 l0 l1 m w rfl rfl b1 b2 hc0' hc1' hc0 h3 h5 hm).mono fun e w' ⟨p, n, q⟩ => ⟨p, n, q⟩
  · cases h


/-! ### strings_Contains: function 70 -/
/-- (a text of one byte is asked for) -/
def strings_Contains.f (a0 a1 : ByteArray) : Option Bool := if a1.size = 1 then some (decide (0 ≤ Lib.indexByte a0.data.toList (a1.data.toList.getD 0 0))) else none
theorem strings_Contains.calls (a0 a1 : ByteArray) (r : Bool) (w : World) (h : strings_Contains.f a0 a1 = some r) :
    Calls Tryd.prog 70 #[.string a0, .string a1] w fun e w' => e = .returned (.bool r) ∧ Drawn0 w w' := by
  unfold strings_Contains.f at h
  split at h
  · rename_i hs
    obtain rfl := Option.some.inj h
    obtain ⟨c, rfl⟩ : ∃ c, a1 = ⟨#[c]⟩ := by
      obtain ⟨⟨l⟩⟩ := a1
      match l, hs with
      | [c], _ => exact ⟨c, rfl⟩
    exact (Tryd.strings_Contains_one a0 c w).mono fun e w' ⟨h1, h2⟩ => ⟨h1, 0, h2⟩
  · cases h


end Go.Proofs.YtabkdmfnafeaeaaDoor.R
