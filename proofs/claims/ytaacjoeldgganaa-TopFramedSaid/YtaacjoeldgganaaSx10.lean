-- Laid by lay.py, a program of this session's, out of the translation (the kit's printer with additions of ours). Lean checks it.
import Derived.Test.YtaacjoeldgganaaSx0
import Derived.Test.YtaacjoeldgganaaSx9
import Derived.Test.YtaacjoeldgganaaSx13
namespace Go.Proofs.Ytaacjoeldgganaa.S
open Go.RowKit Go.Proofs.YtaacjoeldgganaaW.PrintWords Go.Proofs.YtaacjoeldgganaaW.PrintLast Go.Proofs.YtaacjoeldgganaaW.PrintMore
attribute [local go_sem] max2_int min2_int max_two min_two max_three min_three max_four min_four   -- for this text's walks alone
set_option linter.unusedVariables false
set_option linter.unusedSimpArgs false

/-! ### frame_get: function 25 -/
def get4 (l : List Int) : Int := ((l.getD 0 0 * 256 + l.getD 1 0) * 256 + l.getD 2 0) * 256 + l.getD 3 0
theorem getD_B8 {l : List Int} (h : B8 l) (j : Nat) : 0 ≤ l.getD j 0 ∧ l.getD j 0 ≤ 255 := by
  have := rd_B8 h (j : Int)
  simpa [rd] using this
theorem or_256 (a b : Int) (ha : 0 ≤ a) (ha2 : a < 16777216) (hb : 0 ≤ b) (hb2 : b ≤ 255) : Go.bits .or .u32 (a * 256) b = a * 256 + b := by
  obtain ⟨A, rfl⟩ := Int.eq_ofNat_of_zero_le ha
  obtain ⟨B, rfl⟩ := Int.eq_ofNat_of_zero_le hb
  have h := u32_or_nat (A * 256) B (by omega) (by omega)
  rw [show (A : Int) * 256 = ((A * 256 : Nat) : Int) by simp, h]
  have h2 : A * 256 ||| B = A * 256 + B := by
    have := Nat.two_pow_add_eq_or_of_lt (i := 8) (b := B) (by omega) A
    rw [Nat.mul_comm] at this
    simpa using this.symm
  rw [h2]
  simp
set_option maxHeartbeats 1000000 in
theorem get_core (ad : Addr) (n c0 : Nat) (v0 v1 v2 v3 : Int) (w : World) (h4 : 4 ≤ n) (hn : n ≤ c0) (hm : n ≤ 9223372036854775807)
    (a0 : 0 ≤ v0) (b0 : v0 ≤ 255) (a1 : 0 ≤ v1) (b1 : v1 ≤ 255) (a2 : 0 ≤ v2) (b2 : v2 ≤ 255) (a3 : 0 ≤ v3) (b3 : v3 ≤ 255)
    (x0 : w.cell? ad = some (.int .u8 v0)) (x1 : w.cell? ⟨ad.block, ad.off + 1, none⟩ = some (.int .u8 v1)) (x2 : w.cell? ⟨ad.block, ad.off + 2, none⟩ = some (.int .u8 v2)) (x3 : w.cell? ⟨ad.block, ad.off + 3, none⟩ = some (.int .u8 v3)) :
    Calls Try.prog 25 #[.slice (some ad) n c0] w fun e w' => e = .returned (.int .u32 (((v0 * 256 + v1) * 256 + v2) * 256 + v3)) ∧ Drawn0 w w' := by
  go_enter Try.func25, Try.ntmps25
  go_wp2
  go_loopw [3, 9] (fun x i wr => Drawn0 w wr ∧ ((i = .int .i64 0 ∧ x = .int .u32 (0)) ∨ (i = .int .i64 1 ∧ x = .int .u32 (v0)) ∨ (i = .int .i64 2 ∧ x = .int .u32 (v0 * 256 + v1)) ∨ (i = .int .i64 3 ∧ x = .int .u32 ((v0 * 256 + v1) * 256 + v2)) ∨ (i = .int .i64 4 ∧ x = .int .u32 (((v0 * 256 + v1) * 256 + v2) * 256 + v3)))) (fun _ i _ => 4 - (intOf i).toNat)
  case atStart => exact ⟨Drawn0.refl _, .inl ⟨rfl, rfl⟩⟩
  case round =>
    obtain ⟨⟨m, rfl⟩, hk⟩ := hrel
    rcases hk with ⟨rfl, rfl⟩ | ⟨rfl, rfl⟩ | ⟨rfl, rfl⟩ | ⟨rfl, rfl⟩ | ⟨rfl, rfl⟩
    · have ho : Go.bits .or .u32 0 v0 = v0 := by have h := or_256 0 v0 (by omega) (by omega) (by omega) (by omega); simpa using h
      go_wp2
      go_roundw
      case rel => exact ⟨⟨⟨m, rfl⟩⟩, .inr (.inl ⟨rfl, by go_num⟩)⟩
      case measure => simp [intOf]
    · have ho := or_256 (v0) v1 (by omega) (by omega) (by omega) (by omega)
      go_wp2
      go_roundw
      case rel => exact ⟨⟨⟨m, rfl⟩⟩, .inr (.inr (.inl ⟨rfl, by go_num⟩))⟩
      case measure => simp [intOf]
    · have ho := or_256 (v0 * 256 + v1) v2 (by omega) (by omega) (by omega) (by omega)
      go_wp2
      go_roundw
      case rel => exact ⟨⟨⟨m, rfl⟩⟩, .inr (.inr (.inr (.inl ⟨rfl, by go_num⟩)))⟩
      case measure => simp [intOf]
    · have ho := or_256 ((v0 * 256 + v1) * 256 + v2) v3 (by omega) (by omega) (by omega) (by omega)
      go_wp2
      go_roundw
      case rel => exact ⟨⟨⟨m, rfl⟩⟩, .inr (.inr (.inr (.inr (⟨rfl, by go_num⟩))))⟩
      case measure => simp [intOf]
    · go_wp2
      go_ret
      exact ⟨rfl, ⟨m, rfl⟩⟩
theorem cell_add {w : World} {ad : Addr} {j : Nat} {v : Value} (hj : 0 < j) (h : w.cell? (ad.add j) = some v) : w.cell? ⟨ad.block, ad.off + j, none⟩ = some v := by
  unfold Addr.add at h
  rwa [if_neg (by omega)] at h
theorem get_any (A0 : Option Addr) (c0 : Nat) (l0 : List Int) (w : World) (hr0 : Kd.C (Kd.int .u8) w A0 l0.length l0) (hc0 : l0.length ≤ c0) (h4 : 4 ≤ l0.length) (hb : B8 l0) :
    Calls Try.prog 25 #[.slice A0 l0.length c0] w fun e w' => e = .returned (.int .u32 (get4 l0)) ∧ Drawn0 w w' := by
  have hR := Kd.reads_of_C (d := (0 : Int)) hr0
  obtain ⟨ad, rfl, hc⟩ := hR.2.2 (by omega)
  exact get_core ad l0.length c0 _ _ _ _ w h4 hc0 hR.2.1 (getD_B8 hb 0).1 (getD_B8 hb 0).2 (getD_B8 hb 1).1 (getD_B8 hb 1).2 (getD_B8 hb 2).1 (getD_B8 hb 2).2 (getD_B8 hb 3).1 (getD_B8 hb 3).2
    (hc 0 (by omega)) (cell_add (by omega) (hc 1 (by omega))) (cell_add (by omega) (hc 2 (by omega))) (cell_add (by omega) (hc 3 (by omega)))
def frame_get.f (l0 : List Int) : Option Int := if 4 ≤ l0.length ∧ okB l0 = true then some (get4 l0) else none
theorem frame_get.calls (A0 : Option Addr) (c0 : Nat) (l0 : List Int) (r : Int) (w : World) (hr0 : Kd.C (Kd.int .u8) w A0 l0.length l0) (hc0 : l0.length ≤ c0) (h : frame_get.f l0 = some r) :
    Calls Try.prog 25 #[.slice A0 l0.length c0] w fun e w' => e = .returned (.int .u32 r) ∧ Drawn0 w w' := by
  unfold frame_get.f at h
  split at h
  · rename_i hh
    obtain rfl := Option.some.inj h
    exact get_any A0 c0 l0 w hr0 hc0 hh.1 ((okB_iff _).1 hh.2)
  · cases h


end Go.Proofs.Ytaacjoeldgganaa.S
