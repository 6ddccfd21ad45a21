import Derived.Test.YtaacjoeldgganaaSx3
import Derived.Test.YtaacjoeldgganaaSx4
import Derived.Test.YtaacjoeldgganaaSx9
/-! Numbers as bytes: what wire.number appends, and how they are read. No program in sight. -/
namespace Go.Proofs.Ytaacjoeldgganaa.S
open Go.RowKit Go.Proofs.YtaacjoeldgganaaW.PrintWords Go.Proofs.YtaacjoeldgganaaW.PrintLast Go.Proofs.YtaacjoeldgganaaW.PrintMore
set_option linter.unusedVariables false
theorem encF_B8 : ∀ (f : Nat) (n : Int), 0 ≤ n → B8 (encF f n)
  | 0, _, _ => fun x hx => absurd hx (by simp [encF])
  | f + 1, n, h => by
    unfold encF
    split
    · intro x hx
      simp only [List.mem_singleton] at hx
      omega
    · intro x hx
      rcases List.mem_cons.1 hx with rfl | hx
      · omega
      · exact encF_B8 f _ (by omega) x hx
theorem enc_B8 {n : Int} (h : 0 ≤ n) : B8 (enc n) := encF_B8 7 n h
theorem number_l0 : ∀ (f : Nat) (k : Nat) (l : List Int) (n : Int), 0 ≤ n → n < 2 ^ (7 * f) → n < 2 ^ 61 → 0 < f → f ≤ k → l.length + f < 140737488355328 → wire_number.l0 k l n = some (l ++ encF f n)
  | 0, _, _, _, _, _, _, h, _, _ => absurd h (by omega)
  | f + 1, 0, _, _, _, _, _, _, h, _ => absurd h (by omega)
  | f + 1, k + 1, l, n, h0, h1, h61, _, hk, hl => by
    unfold wire_number.l0 encF
    by_cases hn : n < 128
    · rw [if_neg (by omega), if_pos hn, if_pos (by omega), Int.emod_eq_of_lt h0 (by omega)]
    · rw [if_pos (by omega), if_neg hn, if_pos (by omega)]
      cases f with
      | zero => exact absurd h1 (by omega)
      | succ f =>
        have e : (2 : Int) ^ (7 * (f + 1 + 1)) = 128 * 2 ^ (7 * (f + 1)) := by rw [show 7 * (f + 1 + 1) = 7 * (f + 1) + 7 by omega, Int.pow_add]; omega
        rw [e] at h1
        have ho : Go.bits .or .i64 (n % 128) 128 = n % 128 + 128 := bits_or_add (x := n % 128) (y := 1) 7 (by omega) (by omega) (by omega) (by omega) (by omega)
        rw [bits_and127 h0 (by omega), ho, Int.emod_eq_of_lt (b := 256) (by omega) (by omega), number_l0 (f + 1) k _ (n / 128) (by omega) (by omega) (by omega) (by omega) (by omega) (by simp; omega)]
        simp
theorem number_is {n : Int} (h0 : 0 ≤ n) (h1 : n < 2 ^ 42) (k : Nat) (hk : 7 ≤ k) (l : List Int) (hl : l.length + 7 < 140737488355328) : wire_number.f k l n = some (l ++ enc n) :=
  number_l0 7 k l n h0 (by omega) (by omega) (by omega) hk hl
/-- An entry's bytes. -/
def encE (e : S48) : List Int := [e.f0 % 256] ++ enc e.f1 ++ enc e.f2 ++ enc e.f3.length ++ e.f3
theorem lay_is (e : S48) (h1 : 0 ≤ e.f1) (h1' : e.f1 < 2 ^ 42) (h2 : 0 ≤ e.f2) (h2' : e.f2 < 2 ^ 42) (h3 : e.f3.length < 2 ^ 42) (k : Nat) (hk : 7 ≤ k) (l : List Int) (hl : l.length + 22 + e.f3.length < 140737488355328) :
    wire_lay.f k l e.f0 e.f1 e.f2 e.f3 = some (l ++ encE e) := by
  have a := enc_len e.f1
  have b := enc_len e.f2
  have c := enc_len e.f3.length
  unfold wire_lay.f encE
  rw [if_pos (by omega), number_is h1 h1' k hk _ (by simp; omega)]
  simp only [Option.bind_some]
  rw [number_is h2 h2' k hk _ (by simp; omega)]
  simp only [Option.bind_some]
  rw [number_is (by omega) (by omega) k hk _ (by simp; omega)]
  simp only [Option.bind_some]
  rw [if_pos (by simp; omega)]
  simp
end Go.Proofs.Ytaacjoeldgganaa.S
