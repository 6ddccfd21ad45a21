/- Comparisons of any doubles with those that are not negative. -/
import Derived.Test.YtlknaikdlkobjaaFLa
namespace Go.Proofs.Ytlknaikdlkobjaa.FL
open Ieee
def NEG0 : Nat := 9223372036854775808
theorem read_neg {w : Nat} (h1 : 9223372036854775808 ≤ w) (h2 : w < 18446744073709551616) : (∃ m e, Ieee.double.read w = .number true m e ∧ (m = 0 → w = 9223372036854775808)) ∨ Ieee.double.read w = .infinity true ∨ ∃ fr, Ieee.double.read w = .nan true fr := by
  have hs : Ieee.double.signWeight = 9223372036854775808 := rfl
  have hB : Ieee.double.binade = 4503599627370496 := rfl
  have hI : Ieee.double.infRung = 9218868437227405312 := rfl
  unfold Format.read
  simp only [hs, hB, hI]
  have e1 : w / 9223372036854775808 = 1 := by omega
  have e2 : w % 9223372036854775808 = w - 9223372036854775808 := by omega
  rw [e1, e2]
  by_cases hb : w - 9223372036854775808 < 4503599627370496
  · rw [if_pos hb]
    exact Or.inl ⟨_, _, rfl, fun h => by omega⟩
  · rw [if_neg hb]
    by_cases hc : w - 9223372036854775808 < 9218868437227405312
    · rw [if_pos hc]
      exact Or.inl ⟨_, _, rfl, fun h => by omega⟩
    · rw [if_neg hc]
      by_cases hd : w - 9223372036854775808 = 9218868437227405312
      · rw [if_pos hd]; exact Or.inr (Or.inl rfl)
      · rw [if_neg hd]; exact Or.inr (Or.inr ⟨_, rfl⟩)
theorem read_nan {w : Nat} (h1 : INF < w) (h2 : w < 9223372036854775808) : ∃ fr, Ieee.double.read w = .nan false fr := by
  unfold INF at h1
  have hs : Ieee.double.signWeight = 9223372036854775808 := rfl
  have hB : Ieee.double.binade = 4503599627370496 := rfl
  have hI : Ieee.double.infRung = 9218868437227405312 := rfl
  unfold Format.read
  simp only [hs, hB, hI]
  have e1 : w / 9223372036854775808 = 0 := Nat.div_eq_of_lt h2
  have e2 : w % 9223372036854775808 = w := Nat.mod_eq_of_lt h2
  rw [e1, e2, if_neg (by omega), if_neg (by omega), if_neg (by omega)]
  exact ⟨_, rfl⟩
theorem signed_true (m u : Nat) : signed true m u = -((m * 2 ^ u : Nat) : Int) := by
  unfold signed
  simp [Nat.shiftLeft_eq]
/-- A double that is none of those that are not negative, beside one that is: unordered, or less, or a negative zero. -/
theorem order_other {w b : Nat} (h1 : INF < w) (h2 : w < 18446744073709551616) (hb : b ≤ INF) : Ieee.double.order w b = none ∨ (Ieee.double.order w b = some .lt ∧ Ieee.double.order b w = some .gt) ∨ w = NEG0 := by
  by_cases hn : w < 9223372036854775808
  · obtain ⟨fr, hr⟩ := read_nan h1 hn
    unfold Format.order
    rw [hr]
    cases Ieee.double.read b <;> exact Or.inl rfl
  · rcases read_neg (by omega) h2 with ⟨m, e, hr, hm⟩ | hr | ⟨fr, hr⟩
    · by_cases h0 : m = 0
      · exact Or.inr (Or.inr (hm h0))
      · refine Or.inr (Or.inl ?_)
        unfold Format.order
        rw [hr]
        by_cases hf : b < INF
        · obtain ⟨n, j, hrb, _⟩ := read_fin hf
          rw [hrb]
          simp only [Datum.order, signed_false, signed_true]
          have hp : ∀ u, 0 < m * 2 ^ u := fun u => Nat.mul_pos (by omega) (Nat.two_pow_pos _)
          constructor
          · congr 1
            rw [Int.compare_eq_lt]
            have := hp (e - min e (-1074 + (j : Int))).toNat
            omega
          · congr 1
            rw [Int.compare_eq_gt]
            have := hp (e - min (-1074 + (j : Int)) e).toNat
            omega
        · obtain rfl : b = INF := by omega
          rw [read_inf]
          exact ⟨rfl, rfl⟩
    · refine Or.inr (Or.inl ?_)
      unfold Format.order
      rw [hr]
      by_cases hf : b < INF
      · obtain ⟨n, j, hrb, _⟩ := read_fin hf
        rw [hrb]
        exact ⟨rfl, rfl⟩
      · obtain rfl : b = INF := by omega
        rw [read_inf]
        exact ⟨rfl, rfl⟩
    · unfold Format.order
      rw [hr]
      cases Ieee.double.read b <;> exact Or.inl rfl
theorem order_none_symm {a b : Nat} (h : Ieee.double.order a b = none) : Ieee.double.order b a = none := by
  unfold Format.order at h ⊢
  cases ha : Ieee.double.read a <;> cases hb : Ieee.double.read b <;> rw [ha, hb] at h <;> first | rfl | (exfalso; revert h; simp [Datum.order])
theorem zero_le : (0 : Nat) ≤ INF := Nat.zero_le _
theorem gt0 {w : Nat} (h : w < 18446744073709551616) : Ieee.double.order w 0 = some .gt ↔ 0 < w ∧ w ≤ INF := by
  by_cases h1 : w ≤ INF
  · rw [order_nn h1 zero_le]
    constructor
    · intro e
      injection e with e
      exact ⟨Nat.compare_eq_gt.1 e, h1⟩
    · intro e; rw [Nat.compare_eq_gt.2 e.1]
  · constructor
    · intro e
      rcases order_other (by omega) h zero_le with g | ⟨g, _⟩ | g
      · rw [g] at e; cases e
      · rw [g] at e; cases e
      · subst g
        rw [show NEG0 = 9223372036854775808 from rfl, order_neg0 zero_le, order_nn zero_le zero_le] at e
        cases e
    · intro e; omega
/-- What a draw counts as. -/
def eff (d : Nat) : Nat := if d ≤ INF then d else 0
theorem geq0 {w : Nat} (h : w < 18446744073709551616) : (Ieee.double.order w 0 = some .gt ∨ Ieee.double.order w 0 = some .eq) ↔ (w ≤ INF ∨ w = NEG0) := by
  by_cases h1 : w ≤ INF
  · rw [order_nn h1 zero_le]
    refine ⟨fun _ => Or.inl h1, fun _ => ?_⟩
    rcases Nat.eq_zero_or_pos w with e | e
    · subst e; exact Or.inr rfl
    · exact Or.inl (by rw [Nat.compare_eq_gt.2 e])
  · constructor
    · intro e
      rcases order_other (by omega) h zero_le with g | ⟨g, _⟩ | g
      · rw [g] at e; rcases e with e | e <;> cases e
      · rw [g] at e; rcases e with e | e <;> cases e
      · exact Or.inr g
    · rintro (e | e)
      · omega
      · subst e
        rw [show NEG0 = 9223372036854775808 from rfl, order_neg0 zero_le, order_nn zero_le zero_le]
        exact Or.inr rfl
/-- Draws in order count in order. -/
theorem eff_mono {a b : Nat} (hb : b < 18446744073709551616) (h : Ieee.double.order a b = some .lt ∨ Ieee.double.order a b = some .eq) : eff a ≤ eff b := by
  unfold eff
  by_cases h1 : a ≤ INF
  · rw [if_pos h1]
    by_cases h2 : b ≤ INF
    · rw [if_pos h2]
      rw [order_nn h1 h2] at h
      rcases h with h | h
      · injection h with h; have := Nat.compare_eq_lt.1 h; omega
      · injection h with h; have := Nat.compare_eq_eq.1 h; omega
    · rw [if_neg h2]
      rcases order_other (by omega) hb h1 with g | ⟨_, g⟩ | g
      · rw [order_none_symm g] at h; rcases h with h | h <;> cases h
      · rw [g] at h; rcases h with h | h <;> cases h
      · subst g
        by_cases h0 : a = 0
        · omega
        · exfalso
          have : Ieee.double.order a NEG0 = some .gt := by
            by_cases hf : a < INF
            · obtain ⟨m, i, hra, hva⟩ := read_fin hf
              have hm : m ≠ 0 := by
                intro hm
                subst hm
                rw [Nat.zero_mul] at hva
                exact h0 (val_inj hf (show 0 < INF by decide) hva)
              unfold Format.order
              rw [hra, show Ieee.double.read NEG0 = .number true 0 (-1074) from rfl]
              simp only [Datum.order, signed_false, signed_true]
              congr 1
              rw [Int.compare_eq_gt]
              have : 0 < m * 2 ^ ((-1074 + (i : Int)) - min (-1074 + (i : Int)) (-1074)).toNat := Nat.mul_pos (by omega) (Nat.two_pow_pos _)
              omega
            · obtain rfl : a = INF := by omega
              rfl
          rw [this] at h
          rcases h with h | h <;> cases h
  · rw [if_neg h1]; exact Nat.zero_le _
/-! products and sums stay in order -/
theorem mul_mono {a a' b : Nat} (h : a ≤ a') (ha : a' < INF) : rnd2 (val a * val b) ≤ rnd2 (val a' * val b) := rnd2_mono (Nat.mul_le_mul_right _ (val_mono (by omega) ha h))
theorem add_mono {a a' b b' : Nat} (h : a ≤ a') (h' : b ≤ b') (ha : a' < INF) (hb : b' < INF) : rnd (val a + val b) ≤ rnd (val a' + val b') := rnd_mono (Nat.add_le_add (val_mono (by omega) ha h) (val_mono (by omega) hb h'))
theorem pow_split (q : Nat) : 4503599627370496 * 2 ^ q = 2 ^ (52 + q) := by rw [Nat.pow_add]
theorem val_pow (b : Nat) (hb : ¬ b < 4503599627370496) (hm : b % 4503599627370496 = 0) : ∃ e : Nat, e = 52 + (b / 4503599627370496 - 1) ∧ val b = 2 ^ e := by
  refine ⟨_, rfl, ?_⟩
  unfold val
  rw [if_neg hb, hm, Nat.add_zero, pow_split]
theorem val_one : ∃ e : Nat, e = 1074 ∧ val 4607182418800017408 = 2 ^ e := by
  obtain ⟨e, he, hv⟩ := val_pow 4607182418800017408 (by decide) (by decide)
  exact ⟨e, he.trans (by decide), hv⟩
theorem mul_one {a : Nat} (h : a < INF) : rnd2 (val a * val 4607182418800017408) = a := by
  obtain ⟨e, he, hv⟩ := val_one
  rw [hv]
  have := near_scale (val a) e (-1074)
  unfold rnd2
  rw [show (-2148 : Int) = -1074 - (e : Int) by omega, this]
  exact rnd_val h
end Go.Proofs.Ytlknaikdlkobjaa.FL
