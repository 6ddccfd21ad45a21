/- The draws of a share of equal weights, and what the weights' sums are. -/
import Derived.Test.YtlknaikdlkobjaaPWb
namespace Go.Proofs.Ytlknaikdlkobjaa.FL
open Ieee
/-- What has few digits is a float as it is. -/
theorem val_exists (n k : Nat) (hn : 0 < n) (hb : n < 9007199254740992) (hk : 52 ≤ k) (hk2 : k ≤ 1990) : ∃ b, b < INF ∧ val b = n * 2 ^ k := by
  have hn0 : n ≠ 0 := by omega
  have h1 := two_log_le hn0
  have h2 := lt_two_log n
  have hL : n.log2 ≤ 52 := by
    have : n.log2 < 53 := by rw [Nat.log2_lt hn0]; exact hb
    omega
  generalize n.log2 = L at *
  have hm1 : 4503599627370496 ≤ n * 2 ^ (52 - L) := by
    have : 2 ^ L * 2 ^ (52 - L) ≤ n * 2 ^ (52 - L) := Nat.mul_le_mul_right _ h1
    rw [← Nat.pow_add, show L + (52 - L) = 52 by omega] at this
    exact this
  have hm2 : n * 2 ^ (52 - L) < 9007199254740992 := by
    have : n * 2 ^ (52 - L) < 2 ^ (L + 1) * 2 ^ (52 - L) := Nat.mul_lt_mul_of_pos_right h2 (Nat.two_pow_pos _)
    rw [← Nat.pow_add, show L + 1 + (52 - L) = 53 by omega] at this
    exact this
  have hs : n * 2 ^ k = n * 2 ^ (52 - L) * 2 ^ (k - (52 - L)) := by
    rw [Nat.mul_assoc, ← Nat.pow_add]
    congr 2
    omega
  rw [hs]
  generalize n * 2 ^ (52 - L) = m at *
  obtain ⟨e, he⟩ : ∃ e, k - (52 - L) = e := ⟨_, rfl⟩
  have he2 : e ≤ 1990 := by omega
  rw [he]
  refine ⟨(e + 1) * 4503599627370496 + (m - 4503599627370496), by unfold INF; omega, ?_⟩
  unfold val
  have q1 : ((e + 1) * 4503599627370496 + (m - 4503599627370496)) / 4503599627370496 = e + 1 := by omega
  have q2 : ((e + 1) * 4503599627370496 + (m - 4503599627370496)) % 4503599627370496 = m - 4503599627370496 := by omega
  rw [if_neg (by omega), q1, q2, show 4503599627370496 + (m - 4503599627370496) = m by omega]
  rfl
theorem val_rnd (n k : Nat) (hb : n < 9007199254740992) (hk : 52 ≤ k) (hk2 : k ≤ 1990) : val (rnd (n * 2 ^ k)) = n * 2 ^ k ∧ rnd (n * 2 ^ k) < INF := by
  rcases Nat.eq_zero_or_pos n with h | h
  · subst h
    rw [Nat.zero_mul, show rnd 0 = 0 from near_zero _]
    exact ⟨rfl, by decide⟩
  · obtain ⟨b, h1, h2⟩ := val_exists n k h hb hk hk2
    rw [← h2, rnd_val h1]
    exact ⟨rfl, h1⟩
end Go.Proofs.Ytlknaikdlkobjaa.FL
namespace Go.Proofs.Ytlknaikdlkobjaa.Pure
open Go.RowKit Go.Proofs.Ytlknaikdlkobjaa.Q Go.Proofs.Ytlknaikdlkobjaa.PP Go.Proofs.YtlknaikdlkobjaaW.PrintWords Go.Proofs.YtlknaikdlkobjaaW.PrintLast Go.Proofs.YtlknaikdlkobjaaW.PrintMore Go.Proofs.Ytlknaikdlkobjaa.FL
theorem fint_is (n : Nat) {E : Nat} (hE : E = 1074) : fint (n : Int) = rnd (n * 2 ^ E) := by
  rw [← near_low n E (p := 0) (by omega)]
  have h1 : decide ((n : Int) < 0) = false := decide_eq_false (by omega)
  have h2 : ((n : Int)).natAbs = n := Int.natAbs_natCast n
  show Ieee.double.nearest (decide ((n : Int) < 0)) ((n : Int)).natAbs 0 = near n 0
  rw [h1, h2]
  rfl
theorem fint_val {n : Nat} (hn : n < 9007199254740992) {E : Nat} (hE : E = 1074) : val (fint (n : Int)) = n * 2 ^ E ∧ fint (n : Int) < INF := by
  rw [fint_is n hE]
  exact val_rnd n E hn (by omega) (by omega)
def drawS (m i far : Nat) : Nat := fquo (fadd (fint (i : Int)) (fquo (fint (far : Int)) 4643211215818981376)) (fint (m : Int))
/-- So many times a weight. -/
def GS (w j : Nat) : Nat := fint ((j * (w + 1) : Nat) : Int)
def okS (m i far : Nat) : Bool := fquoOk (fint (far : Int)) 4643211215818981376 && (faddOk (fint (i : Int)) (fquo (fint (far : Int)) 4643211215818981376) && (fquoOk (fadd (fint (i : Int)) (fquo (fint (far : Int)) 4643211215818981376)) (fint (m : Int)) && (decide (drawS m i 0 ≤ drawS m i far) && (decide (drawS m i far ≤ drawS m i 255) && decide (drawS m i 255 < ONE)))))
def valS (n i : Nat) : Bool := val (drawS (2 ^ n) i 0) == i * 2 ^ (1074 - n) && val (drawS (2 ^ n) i 255) == (256 * i + 255) * 2 ^ (1066 - n)
theorem okS_all : ((List.range 4).all fun n => (List.range (2 ^ n)).all fun i => (List.range 256).all fun far => okS (2 ^ n) i far) = true := by decide +kernel
theorem valS_all : ((List.range 4).all fun n => (List.range (2 ^ n)).all fun i => valS n i) = true := by decide +kernel
theorem GS_val {w j : Nat} (hw : w < 256) (hj : j ≤ 8) {E : Nat} (hE : E = 1074) : val (GS w j) = j * (w + 1) * 2 ^ E ∧ GS w j < INF := by
  have : j * (w + 1) ≤ 8 * 256 := Nat.mul_le_mul hj (by omega)
  exact fint_val (by omega) hE
theorem step_at {w j : Nat} (hw : w < 256) (hj : j < 8) : addS (GS w j) (GS w 1) = GS w (j + 1) ∧ GS w j < GS w (j + 1) ∧ GS w (j + 1) < INF := by
  obtain ⟨E, hE⟩ : ∃ E : Nat, E = 1074 := ⟨_, rfl⟩
  obtain ⟨a1, a2⟩ := GS_val hw (show j ≤ 8 by omega) hE
  obtain ⟨b1, b2⟩ := GS_val hw (show 1 ≤ 8 by omega) hE
  obtain ⟨c1, c2⟩ := GS_val hw (show j + 1 ≤ 8 by omega) hE
  have hsum : val (GS w j) + val (GS w 1) = val (GS w (j + 1)) := by
    rw [a1, b1, c1, ← Nat.add_mul, ← Nat.add_mul]
  refine ⟨?_, ?_, c2⟩
  · unfold addS
    rw [if_pos a2, if_pos b2, hsum, rnd_val c2]
  · rw [← val_lt_iff a2 c2, ← hsum, b1]
    have : 0 < 1 * (w + 1) * 2 ^ E := Nat.mul_pos (by omega) (Nat.two_pow_pos _)
    omega
theorem ends_at {w n i : Nat} (hw : w < 256) (hn : n < 4) (hi : i < 2 ^ n) : GS w i ≤ prodS (drawS (2 ^ n) i 0) (GS w (2 ^ n)) ∧ prodS (drawS (2 ^ n) i 255) (GS w (2 ^ n)) < GS w (i + 1) := by
  have h1 := List.all_eq_true.1 (List.all_eq_true.1 valS_all n (List.mem_range.2 hn)) i (List.mem_range.2 hi)
  have h2 := List.all_eq_true.1 (List.all_eq_true.1 (List.all_eq_true.1 okS_all n (List.mem_range.2 hn)) i (List.mem_range.2 hi)) 0 (List.mem_range.2 (by omega))
  have hm : 2 ^ n ≤ 8 := by
    have : n = 0 ∨ n = 1 ∨ n = 2 ∨ n = 3 := by omega
    rcases this with rfl | rfl | rfl | rfl <;> decide
  unfold valS at h1
  simp only [Bool.and_eq_true, beq_iff_eq] at h1
  obtain ⟨v0, v1⟩ := h1
  unfold okS at h2
  simp only [Bool.and_eq_true, decide_eq_true_eq] at h2
  obtain ⟨_, _, _, _, o5, o6⟩ := h2
  have hlt := one_lt
  obtain ⟨E, hE⟩ : ∃ E : Nat, E = 1074 := ⟨_, rfl⟩
  obtain ⟨q1, q2⟩ := GS_val hw hm hE
  obtain ⟨c1, c2⟩ := GS_val hw (show i + 1 ≤ 8 by omega) hE
  have x0 : i * 2 ^ (1074 - n) * (2 ^ n * (w + 1) * 2 ^ E) = i * (w + 1) * 2 ^ (E + E) := by
    obtain ⟨r, hr⟩ : ∃ r, r = 1074 - n := ⟨_, rfl⟩
    rw [← hr, show E + E = r + n + E by omega, Nat.pow_add, Nat.pow_add]
    ac_rfl
  have x1 : (256 * i + 255) * 2 ^ (1066 - n) * (2 ^ n * (w + 1) * 2 ^ E) = (256 * i + 255) * (w + 1) * 2 ^ (E - 8 + E) := by
    obtain ⟨r, hr⟩ : ∃ r, r = 1066 - n := ⟨_, rfl⟩
    rw [← hr, show E - 8 + E = r + n + E by omega, Nat.pow_add, Nat.pow_add]
    ac_rfl
  have p0 : (-2148 : Int) = 0 - ((E + E : Nat) : Int) := by omega
  have p1 : (-2148 : Int) = -8 - ((E - 8 + E : Nat) : Int) := by omega
  have e0 : prodS (drawS (2 ^ n) i 0) (GS w (2 ^ n)) = GS w i := by
    unfold prodS rnd2
    rw [if_pos (by omega), v0, q1, x0, p0, near_scale]
    unfold GS
    rw [fint_is _ hE, near_low (i * (w + 1)) E (p := 0) (by omega)]
  have e1 : prodS (drawS (2 ^ n) i 255) (GS w (2 ^ n)) = rnd ((256 * i + 255) * (w + 1) * 2 ^ (E - 8)) := by
    unfold prodS rnd2
    have hp8 : (-8 : Int) = -1074 + ((E - 8 : Nat) : Int) := by omega
    generalize 256 * i + 255 = z at *
    rw [if_pos (by omega), v1, q1, x1, p1, near_scale (z * (w + 1)) (E - 8 + E) (-8), near_low (z * (w + 1)) (E - 8) hp8]
  refine ⟨Nat.le_of_eq e0.symm, ?_⟩
  have hx : (256 * i + 255) * (w + 1) ≤ (256 * 8 + 255) * 256 := Nat.mul_le_mul (by omega) (by omega)
  obtain ⟨r1, r2⟩ := val_rnd ((256 * i + 255) * (w + 1)) (E - 8) (Nat.lt_of_le_of_lt hx (by decide)) (by omega) (by omega)
  rw [e1, ← val_lt_iff r2 c2, r1, c1]
  have hp : 0 < 2 ^ (E - 8) := Nat.two_pow_pos _
  have e8 : 8 + (E - 8) = E := by omega
  have e9 : (2 : Nat) ^ E = 256 * 2 ^ (E - 8) := by rw [show (256 : Nat) = 2 ^ 8 from rfl, ← Nat.pow_add, e8]
  rw [e9]
  generalize 2 ^ (E - 8) = p at *
  have : (256 * i + 255) * (w + 1) < (i + 1) * (w + 1) * 256 := by
    have e : (i + 1) * (w + 1) * 256 = (256 * i + 256) * (w + 1) := by rw [Nat.mul_right_comm]; congr 1; omega
    rw [e]
    exact Nat.mul_lt_mul_of_pos_right (by omega) (by omega)
  calc (256 * i + 255) * (w + 1) * p < (i + 1) * (w + 1) * 256 * p := Nat.mul_lt_mul_of_pos_right this hp
    _ = (i + 1) * (w + 1) * (256 * p) := Nat.mul_assoc _ _ _
end Go.Proofs.Ytlknaikdlkobjaa.Pure
