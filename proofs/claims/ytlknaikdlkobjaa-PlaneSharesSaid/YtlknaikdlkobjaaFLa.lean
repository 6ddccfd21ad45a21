/- Doubles that are not negative, as whole numbers of their least unit: what rounding keeps in order. No program in sight. -/
import Derived.Laws.FloatBits
namespace Go.Proofs.Ytlknaikdlkobjaa.FL
open Ieee
/-! ### rounding to a power of two -/
def cutE (n d : Nat) : Nat := Toward.even.cut false n d
theorem cut_eq (n d : Nat) : cutE n d = n / 2 ^ min d (n.log2 + 2) + (decide (2 ^ min d (n.log2 + 2) < 2 * (n % 2 ^ min d (n.log2 + 2))) || (2 ^ min d (n.log2 + 2) == 2 * (n % 2 ^ min d (n.log2 + 2)) && n / 2 ^ min d (n.log2 + 2) % 2 == 1)).toNat := by
  unfold cutE Toward.cut
  simp only [Nat.one_shiftLeft]
theorem lt_two_log (n : Nat) : n < 2 ^ (n.log2 + 1) := Nat.lt_log2_self
theorem two_log_le {n : Nat} (h : n ≠ 0) : 2 ^ n.log2 ≤ n := Nat.log2_self_le h
/-- What is cut lies within half a unit. -/
theorem cut_near (n d : Nat) : 2 * (cutE n d * 2 ^ d) ≤ 2 * n + 2 ^ d ∧ 2 * n ≤ 2 * (cutE n d * 2 ^ d) + 2 ^ d := by
  rw [cut_eq]
  by_cases h : d ≤ n.log2 + 2
  · rw [Nat.min_eq_left h]
    generalize hG : 2 ^ d = G
    have hG0 : 0 < G := by rw [← hG]; exact Nat.two_pow_pos _
    have hd := Nat.div_add_mod n G
    have hm := Nat.mod_lt n hG0
    generalize n / G = q at *
    generalize n % G = r at *
    have e : q * G = G * q := Nat.mul_comm _ _
    by_cases c : (decide (G < 2 * r) || (G == 2 * r && q % 2 == 1)) = true
    · rw [c]
      have : G ≤ 2 * r := by
        simp only [Bool.or_eq_true, decide_eq_true_eq, Bool.and_eq_true, beq_iff_eq] at c
        omega
      have e2 : (q + true.toNat) * G = G * q + G := by rw [Nat.add_mul, e]; simp
      omega
    · rw [Bool.not_eq_true] at c
      rw [c]
      have : 2 * r ≤ G := by
        simp only [Bool.or_eq_false_iff, decide_eq_false_iff_not] at c
        omega
      have e2 : (q + false.toNat) * G = G * q := by rw [← e]; simp
      omega
  · rw [Nat.min_eq_right (by omega)]
    have h1 := lt_two_log n
    have h2 : n < 2 ^ (n.log2 + 2) := Nat.lt_trans h1 (Nat.pow_lt_pow_right (by omega) (by omega))
    have h3 : 2 ^ (n.log2 + 2) = 2 * 2 ^ (n.log2 + 1) := by rw [show n.log2 + 2 = (n.log2 + 1) + 1 from rfl, Nat.pow_succ, Nat.mul_comm]
    have h4 : 2 ^ (n.log2 + 2) ≤ 2 ^ d := Nat.pow_le_pow_right (by omega) (by omega)
    rw [Nat.div_eq_of_lt h2, Nat.mod_eq_of_lt h2]
    have c : (decide (2 ^ (n.log2 + 2) < 2 * n) || (2 ^ (n.log2 + 2) == 2 * n && 0 % 2 == 1)) = false := by
      simp only [Bool.or_eq_false_iff, decide_eq_false_iff_not]
      refine ⟨by omega, ?_⟩
      have : (2 ^ (n.log2 + 2) == 2 * n) = false := beq_eq_false_iff_ne.2 (by omega)
      rw [this]
      rfl
    rw [c]
    simp
    omega
theorem cut_mono {n n' : Nat} (h : n ≤ n') (d : Nat) : cutE n d ≤ cutE n' d := by
  rcases Nat.lt_or_ge (cutE n' d) (cutE n d) with hlt | hge
  · exfalso
    obtain ⟨a1, _⟩ := cut_near n d
    obtain ⟨_, b2⟩ := cut_near n' d
    have hm : (cutE n' d + 1) * 2 ^ d ≤ cutE n d * 2 ^ d := Nat.mul_le_mul_right _ hlt
    rw [Nat.add_mul] at hm
    have : n = n' := by omega
    subst this
    omega
  · exact hge
theorem log2_shift {n : Nat} (h : n ≠ 0) (k : Nat) : (n * 2 ^ k).log2 = n.log2 + k := by
  have h1 : n * 2 ^ k ≠ 0 := Nat.mul_ne_zero h (Nat.ne_of_gt (Nat.two_pow_pos _))
  rw [Nat.log2_eq_iff h1]
  constructor
  · rw [Nat.pow_add]; exact Nat.mul_le_mul_right _ (two_log_le h)
  · rw [show n.log2 + k + 1 = (n.log2 + 1) + k by omega, Nat.pow_add]
    exact Nat.mul_lt_mul_of_pos_right (lt_two_log n) (Nat.two_pow_pos _)
theorem cut_scale (n d m : Nat) : cutE (n * 2 ^ m) (d + m) = cutE n d := by
  by_cases hn : n = 0
  · subst hn
    rw [Nat.zero_mul, cut_eq, cut_eq]
    simp
  · rw [cut_eq, cut_eq, log2_shift hn]
    rw [show min (d + m) (n.log2 + m + 2) = min d (n.log2 + 2) + m by omega, Nat.pow_add]
    have hp : 0 < 2 ^ m := Nat.two_pow_pos _
    generalize 2 ^ min d (n.log2 + 2) = G
    rw [Nat.mul_div_mul_right _ _ hp, Nat.mul_mod_mul_right]
    have e : 2 * (n % G * 2 ^ m) = (2 * (n % G)) * 2 ^ m := (Nat.mul_assoc _ _ _).symm
    rw [e]
    have c1 : decide (G * 2 ^ m < 2 * (n % G) * 2 ^ m) = decide (G < 2 * (n % G)) := by
      rw [decide_eq_decide]
      exact ⟨fun h => Nat.lt_of_mul_lt_mul_right h, fun h => Nat.mul_lt_mul_of_pos_right h hp⟩
    have c2 : (G * 2 ^ m == 2 * (n % G) * 2 ^ m) = (G == 2 * (n % G)) := by
      rw [Bool.eq_iff_iff, beq_iff_eq, beq_iff_eq]
      exact ⟨fun h => Nat.eq_of_mul_eq_mul_right hp h, fun h => congrArg (· * 2 ^ m) h⟩
    rw [c1, c2]
theorem cut_same {a d a' d' : Nat} (h : a * 2 ^ d' = a' * 2 ^ d) : cutE a d = cutE a' d' := by
  rw [← cut_scale a d d', ← cut_scale a' d' d, h, Nat.add_comm]
theorem cut_zero (n : Nat) : cutE n 0 = n := by
  have := cut_near n 0
  omega
/-! ### doubles -/
def least : Int := -1074
def INF : Nat := 9218868437227405312
def near (n : Nat) (p : Int) : Nat := Ieee.double.nearest false n p
theorem near_zero (p : Int) : near 0 p = 0 := by
  unfold near Format.nearest Format.word
  simp
theorem near_eq {n : Nat} (hn : n ≠ 0) (p : Int) : near n p = min ((max (p + n.log2 - 52) (-1074) - -1074).toNat * 4503599627370496 + cutE (n * 2 ^ (p - max (p + n.log2 - 52) (-1074)).toNat) (max (p + n.log2 - 52) (-1074) - p).toNat) 9218868437227405312 := by
  have hB : Ieee.double.binade = 4503599627370496 := by decide
  have hI : Ieee.double.infRung = 9218868437227405312 := by decide
  have hL : Ieee.double.leastPlace = -1074 := by decide
  have hF : Ieee.double.fractionBits = 52 := rfl
  unfold near Format.nearest Format.word cutE
  rw [if_neg hn]
  simp only [Nat.shiftLeft_eq, hB, hI, hL, hF, Bool.false_eq_true, if_false]
  rfl
theorem near_scale (n k : Nat) (p : Int) : near (n * 2 ^ k) (p - k) = near n p := by
  by_cases hn : n = 0
  · subst hn; rw [Nat.zero_mul, near_zero, near_zero]
  · have h1 : n * 2 ^ k ≠ 0 := Nat.mul_ne_zero hn (Nat.ne_of_gt (Nat.two_pow_pos _))
    rw [near_eq h1, near_eq hn, log2_shift hn]
    have e : p - (k : Int) + ((n.log2 + k : Nat) : Int) - 52 = p + n.log2 - 52 := by omega
    rw [e]
    generalize max (p + (n.log2 : Int) - 52) (-1074) = L
    congr 2
    refine cut_same ?_
    rw [Nat.mul_assoc, Nat.mul_assoc, Nat.mul_assoc, ← Nat.pow_add, ← Nat.pow_add, ← Nat.pow_add]
    congr 2
    omega
/-- At the least place: what a whole number of least units is rounded to. -/
def rnd (n : Nat) : Nat := near n (-1074)
theorem near_low (n j : Nat) {p : Int} (hp : p = -1074 + j) : near n p = rnd (n * 2 ^ j) := by
  unfold rnd
  rw [← near_scale n j p, hp]
  congr 1
  omega
/-- Below the least place. -/
theorem near_D {n : Nat} (hn : n ≠ 0) (d0 : Nat) : near n (-1074 - d0) = min ((max (n.log2 - 52) d0 - d0) * 4503599627370496 + cutE n (max (n.log2 - 52) d0)) 9218868437227405312 := by
  rw [near_eq hn]
  have e1 : max (-1074 - (d0 : Int) + (n.log2 : Int) - 52) (-1074) = -1074 - (d0 : Int) + ((max (n.log2 - 52) d0 : Nat) : Int) := by omega
  rw [e1]
  generalize hD : max (n.log2 - 52) d0 = D
  have hd : d0 ≤ D := by omega
  have e2 : (-1074 - (d0 : Int) - (-1074 - (d0 : Int) + (D : Int))).toNat = 0 := by omega
  have e3 : (-1074 - (d0 : Int) + (D : Int) - (-1074 - (d0 : Int))).toNat = D := by omega
  have e4 : (-1074 - (d0 : Int) + (D : Int) - -1074).toNat = D - d0 := by omega
  rw [e2, e3, e4, Nat.pow_zero, Nat.mul_one]
theorem near_mono {n n' : Nat} (h : n ≤ n') (d0 : Nat) : near n (-1074 - d0) ≤ near n' (-1074 - d0) := by
  by_cases hn : n = 0
  · subst hn; rw [near_zero]; exact Nat.zero_le _
  · have hn' : n' ≠ 0 := by omega
    rw [near_D hn, near_D hn']
    have hl : n.log2 ≤ n'.log2 := by
      rw [Nat.le_log2 hn']
      exact Nat.le_trans (two_log_le hn) h
    have hD : max (n.log2 - 52) d0 ≤ max (n'.log2 - 52) d0 := by omega
    have hd0 : d0 ≤ max (n.log2 - 52) d0 := by omega
    have hL : n.log2 ≤ max (n.log2 - 52) d0 + 52 := by omega
    have hL' : max (n.log2 - 52) d0 < max (n'.log2 - 52) d0 → n'.log2 = max (n'.log2 - 52) d0 + 52 := by omega
    generalize max (n.log2 - 52) d0 = D at *
    generalize max (n'.log2 - 52) d0 = D' at *
    suffices hs : (D - d0) * 4503599627370496 + cutE n D ≤ (D' - d0) * 4503599627370496 + cutE n' D' from Nat.le_min.2 ⟨Nat.le_trans (Nat.min_le_left _ _) hs, Nat.min_le_right _ _⟩
    rcases Nat.eq_or_lt_of_le hD with e | hlt
    · subst e
      have := cut_mono h D
      omega
    · have q1 : cutE n D ≤ 9007199254740992 := by
        obtain ⟨a1, _⟩ := cut_near n D
        have h1 := lt_two_log n
        have h2 : 2 ^ (n.log2 + 1) ≤ 2 ^ (D + 53) := Nat.pow_le_pow_right (by omega) (by omega)
        have h3 : (2 : Nat) ^ (D + 53) = 2 ^ D * 9007199254740992 := Nat.pow_add 2 D 53
        rw [h3] at h2
        have h1 := Nat.lt_of_lt_of_le h1 h2
        clear h2 h3
        have hG : 0 < 2 ^ D := Nat.two_pow_pos _
        generalize 2 ^ D = G at *
        rcases Nat.lt_or_ge 9007199254740992 (cutE n D) with hq | hq
        · exfalso
          have : (9007199254740992 + 1) * G ≤ cutE n D * G := Nat.mul_le_mul_right _ hq
          have e : (9007199254740992 + 1) * G = G * 9007199254740992 + G := by omega
          omega
        · exact hq
      have q2 : 4503599627370496 ≤ cutE n' D' := by
        obtain ⟨_, b2⟩ := cut_near n' D'
        have h1 := two_log_le hn'
        have h3 : (2 : Nat) ^ (D' + 52) = 2 ^ D' * 4503599627370496 := Nat.pow_add 2 D' 52
        rw [hL' hlt, h3] at h1
        clear h3
        have hG : 0 < 2 ^ D' := Nat.two_pow_pos _
        generalize 2 ^ D' = G at *
        rcases Nat.lt_or_ge (cutE n' D') 4503599627370496 with hq | hq
        · exfalso
          have : (cutE n' D' + 1) * G ≤ 4503599627370496 * G := Nat.mul_le_mul_right _ hq
          rw [Nat.add_mul] at this
          have e : 4503599627370496 * G = G * 4503599627370496 := Nat.mul_comm _ _
          omega
        · exact hq
      omega
theorem near_le (n : Nat) (p : Int) : near n p ≤ INF := by
  by_cases hn : n = 0
  · subst hn; rw [near_zero]; exact Nat.zero_le _
  · rw [near_eq hn]; exact Nat.min_le_right _ _
theorem rnd_mono {n n' : Nat} (h : n ≤ n') : rnd n ≤ rnd n' := by
  have := near_mono h 0
  exact this
theorem rnd_le (n : Nat) : rnd n ≤ INF := near_le _ _
/-- A finite double that is not negative, in least units. -/
def val (b : Nat) : Nat := if b < 4503599627370496 then b else (4503599627370496 + b % 4503599627370496) * 2 ^ (b / 4503599627370496 - 1)
theorem log_norm {m : Nat} (h1 : 4503599627370496 ≤ m) (h2 : m < 9007199254740992) : m.log2 = 52 := by
  rw [Nat.log2_eq_iff (by omega)]
  exact ⟨h1, h2⟩
theorem rnd_val {b : Nat} (h : b < INF) : rnd (val b) = b := by
  unfold INF at h
  unfold val
  split
  · rename_i hb
    by_cases h0 : b = 0
    · subst h0; exact near_zero _
    · show near b (-1074 - ((0 : Nat) : Int)) = b
      rw [near_D h0]
      have hl : b.log2 ≤ 52 := by
        have : b.log2 < 52 := by
          rw [Nat.log2_lt h0]
          exact hb
        omega
      have : max (b.log2 - 52) 0 = 0 := by omega
      rw [this, cut_zero]
      omega
  · rename_i hb
    have hm := Nat.mod_lt b (show 0 < 4503599627370496 by decide)
    have hd := Nat.div_add_mod b 4503599627370496
    generalize b / 4503599627370496 = q at *
    generalize b % 4503599627370496 = r at *
    rw [← near_low (4503599627370496 + r) (q - 1) rfl, near_eq (by omega), log_norm (by omega) (by omega)]
    have e1 : max (-1074 + ((q - 1 : Nat) : Int) + ((52 : Nat) : Int) - 52) (-1074) = -1074 + ((q - 1 : Nat) : Int) := by omega
    rw [e1]
    have e2 : (-1074 + ((q - 1 : Nat) : Int) - (-1074 + ((q - 1 : Nat) : Int))).toNat = 0 := by omega
    have e3 : (-1074 + ((q - 1 : Nat) : Int) - -1074).toNat = q - 1 := by omega
    rw [e2, e3, Nat.pow_zero, Nat.mul_one, cut_zero]
    omega
theorem val_lt {a b : Nat} (ha : a < INF) (h : val a < val b) (hb : b < INF) : a < b := by
  have h1 := rnd_mono (Nat.le_of_lt h)
  rw [rnd_val ha, rnd_val hb] at h1
  rcases Nat.eq_or_lt_of_le h1 with e | hlt
  · subst e; omega
  · exact hlt
theorem val_inj {a b : Nat} (ha : a < INF) (hb : b < INF) (h : val a = val b) : a = b := by
  rw [← rnd_val ha, ← rnd_val hb, h]
theorem val_mono {a b : Nat} (ha : a < INF) (hb : b < INF) (h : a ≤ b) : val a ≤ val b := by
  rcases Nat.lt_or_ge (val b) (val a) with hlt | hge
  · have := val_lt hb hlt ha; omega
  · exact hge
theorem val_lt_iff {a b : Nat} (ha : a < INF) (hb : b < INF) : val a < val b ↔ a < b := by
  constructor
  · intro h; exact val_lt ha h hb
  · intro h
    have := val_mono ha hb (Nat.le_of_lt h)
    rcases Nat.eq_or_lt_of_le this with e | hlt
    · have := val_inj ha hb e; omega
    · exact hlt
theorem val_zero : val 0 = 0 := rfl
/-! ### how a double reads -/
theorem read_fin {b : Nat} (h : b < INF) : ∃ (m j : Nat), Ieee.double.read b = .number false m (-1074 + j) ∧ val b = m * 2 ^ j := by
  unfold INF at h
  have hs : Ieee.double.signWeight = 9223372036854775808 := rfl
  have hB : Ieee.double.binade = 4503599627370496 := rfl
  have hI : Ieee.double.infRung = 9218868437227405312 := rfl
  have hL : Ieee.double.leastPlace = -1074 := rfl
  unfold Format.read
  simp only [hs, hB, hI, hL]
  have e1 : b / 9223372036854775808 = 0 := Nat.div_eq_of_lt (by omega)
  have e2 : b % 9223372036854775808 = b := Nat.mod_eq_of_lt (by omega)
  rw [e1, e2]
  by_cases hb : b < 4503599627370496
  · rw [if_pos hb]
    exact ⟨b, 0, rfl, by unfold val; rw [if_pos hb]; simp⟩
  · rw [if_neg hb, if_pos h]
    exact ⟨_, _, rfl, by unfold val; rw [if_neg hb]⟩
theorem read_inf : Ieee.double.read INF = .infinity false := rfl
theorem read_neg0 : Ieee.double.read 9223372036854775808 = .number true 0 (-1074) := rfl
theorem signed_false (m u : Nat) : signed false m u = ((m * 2 ^ u : Nat) : Int) := by
  unfold signed
  simp [Nat.shiftLeft_eq]
/-- Two finite ones at their lower place. -/
theorem at_base (m i : Nat) (base : Int) (hb : base ≤ -1074 + i) (h0 : -1074 ≤ base) : m * 2 ^ i = (m * 2 ^ ((-1074 + (i : Int)) - base).toNat) * 2 ^ (base + 1074).toNat := by
  rw [Nat.mul_assoc, ← Nat.pow_add]
  congr 2
  omega
theorem order_fin {a b : Nat} (ha : a < INF) (hb : b < INF) : Ieee.double.order a b = some (compare a b) := by
  obtain ⟨m, i, hra, hva⟩ := read_fin ha
  obtain ⟨n, j, hrb, hvb⟩ := read_fin hb
  unfold Format.order
  rw [hra, hrb]
  simp only [Datum.order, signed_false]
  have hbase : min (-1074 + (i : Int)) (-1074 + (j : Int)) ≤ -1074 + i ∧ min (-1074 + (i : Int)) (-1074 + (j : Int)) ≤ -1074 + j ∧ -1074 ≤ min (-1074 + (i : Int)) (-1074 + (j : Int)) := by omega
  generalize min (-1074 + (i : Int)) (-1074 + (j : Int)) = base at *
  have e1 := at_base m i base hbase.1 hbase.2.2
  have e2 := at_base n j base hbase.2.1 hbase.2.2
  rw [← hva] at e1
  rw [← hvb] at e2
  generalize m * 2 ^ ((-1074 + (i : Int)) - base).toNat = x at *
  generalize n * 2 ^ ((-1074 + (j : Int)) - base).toNat = y at *
  have hp : 0 < 2 ^ (base + 1074).toNat := Nat.two_pow_pos _
  generalize 2 ^ (base + 1074).toNat = p at *
  have hlt : a < b ↔ x < y := by
    rw [← val_lt_iff ha hb, e1, e2]
    exact ⟨fun h => Nat.lt_of_mul_lt_mul_right h, fun h => Nat.mul_lt_mul_of_pos_right h hp⟩
  have hgt : b < a ↔ y < x := by
    rw [← val_lt_iff hb ha, e1, e2]
    exact ⟨fun h => Nat.lt_of_mul_lt_mul_right h, fun h => Nat.mul_lt_mul_of_pos_right h hp⟩
  congr 1
  rcases Nat.lt_trichotomy a b with h | h | h
  · rw [Nat.compare_eq_lt.2 h, Int.compare_eq_lt.2 (by have := hlt.1 h; omega)]
  · have : x = y := by omega
    rw [Nat.compare_eq_eq.2 h, Int.compare_eq_eq.2 (by omega)]
  · rw [Nat.compare_eq_gt.2 h, Int.compare_eq_gt.2 (by have := hgt.1 h; omega)]
theorem order_nn {a b : Nat} (ha : a ≤ INF) (hb : b ≤ INF) : Ieee.double.order a b = some (compare a b) := by
  by_cases h1 : a < INF
  · by_cases h2 : b < INF
    · exact order_fin h1 h2
    · obtain rfl : b = INF := by omega
      obtain ⟨m, i, hra, _⟩ := read_fin h1
      unfold Format.order
      rw [hra, read_inf, Nat.compare_eq_lt.2 h1]
      rfl
  · obtain rfl : a = INF := by omega
    by_cases h2 : b < INF
    · obtain ⟨m, i, hra, _⟩ := read_fin h2
      unfold Format.order
      rw [hra, read_inf, Nat.compare_eq_gt.2 h2]
      rfl
    · obtain rfl : b = INF := by omega
      rw [Nat.compare_eq_eq.2 rfl]
      rfl
theorem add_fin {a b : Nat} (ha : a < INF) (hb : b < INF) : Ieee.double.add a b = some (rnd (val a + val b)) := by
  obtain ⟨m, i, hra, hva⟩ := read_fin ha
  obtain ⟨n, j, hrb, hvb⟩ := read_fin hb
  unfold Format.add
  rw [hra, hrb]
  simp only [Datum.sum, signed_false, Option.map_some]
  have hbase : min (-1074 + (i : Int)) (-1074 + (j : Int)) ≤ -1074 + i ∧ min (-1074 + (i : Int)) (-1074 + (j : Int)) ≤ -1074 + j ∧ -1074 ≤ min (-1074 + (i : Int)) (-1074 + (j : Int)) := by omega
  generalize min (-1074 + (i : Int)) (-1074 + (j : Int)) = base at *
  have e1 := at_base m i base hbase.1 hbase.2.2
  have e2 := at_base n j base hbase.2.1 hbase.2.2
  rw [← hva] at e1
  rw [← hvb] at e2
  generalize m * 2 ^ ((-1074 + (i : Int)) - base).toNat = x at *
  generalize n * 2 ^ ((-1074 + (j : Int)) - base).toNat = y at *
  have hs : (if (x : Int) + (y : Int) = 0 then (false && false) else decide ((x : Int) + (y : Int) < 0)) = false := by
    split
    · rfl
    · exact decide_eq_false (by omega)
  have hn : ((x : Int) + (y : Int)).natAbs = x + y := by omega
  rw [hs, hn]
  congr 1
  show near (x + y) base = _
  rw [near_low (x + y) (base + 1074).toNat (by omega), e1, e2, Nat.add_mul]
theorem add_inf_l {b : Nat} (hb : b ≤ INF) : Ieee.double.add INF b = some INF := by
  by_cases h : b < INF
  · obtain ⟨m, i, hra, _⟩ := read_fin h
    unfold Format.add
    rw [hra, read_inf]
    rfl
  · obtain rfl : b = INF := by omega
    rfl
theorem add_inf_r {a : Nat} (ha : a ≤ INF) : Ieee.double.add a INF = some INF := by
  by_cases h : a < INF
  · obtain ⟨m, i, hra, _⟩ := read_fin h
    unfold Format.add
    rw [hra, read_inf]
    rfl
  · obtain rfl : a = INF := by omega
    rfl
/-- A product's rounding. -/
def rnd2 (n : Nat) : Nat := near n (-2148)
theorem rnd2_mono {n n' : Nat} (h : n ≤ n') : rnd2 n ≤ rnd2 n' := near_mono h 1074
theorem mul_fin {a b : Nat} (ha : a < INF) (hb : b < INF) : Ieee.double.mul a b = some (rnd2 (val a * val b)) := by
  obtain ⟨m, i, hra, hva⟩ := read_fin ha
  obtain ⟨n, j, hrb, hvb⟩ := read_fin hb
  unfold Format.mul
  rw [hra, hrb]
  simp only [Datum.product, Option.map_some]
  congr 1
  show near (m * n) (-1074 + (i : Int) + (-1074 + (j : Int))) = _
  unfold rnd2
  rw [← near_scale (m * n) (i + j), hva, hvb]
  congr 1
  · rw [Nat.pow_add]; ac_rfl
  · omega
theorem mul_inf_l {b : Nat} (hb : b < INF) (h0 : 0 < b) : Ieee.double.mul INF b = some INF := by
  obtain ⟨m, i, hra, hva⟩ := read_fin hb
  have hm : m ≠ 0 := by
    intro h
    subst h
    rw [Nat.zero_mul] at hva
    have := val_inj hb (show 0 < INF by decide) hva
    omega
  unfold Format.mul
  rw [hra, read_inf]
  simp only [Datum.product, hm, if_false]
  rfl
theorem mul_neg0 {b : Nat} (hb : b < INF) : Ieee.double.mul 9223372036854775808 b = some 9223372036854775808 := by
  obtain ⟨m, i, hra, hva⟩ := read_fin hb
  unfold Format.mul
  rw [hra, read_neg0]
  simp only [Datum.product, Nat.zero_mul]
  rfl
theorem order_neg0 {b : Nat} (hb : b ≤ INF) : Ieee.double.order 9223372036854775808 b = Ieee.double.order 0 b := by
  by_cases h : b < INF
  · obtain ⟨m, i, hra, _⟩ := read_fin h
    unfold Format.order
    rw [hra, read_neg0, show Ieee.double.read 0 = .number false 0 (-1074) from rfl]
    simp only [Datum.order, signed]
    simp
  · obtain rfl : b = INF := by omega
    rfl
end Go.Proofs.Ytlknaikdlkobjaa.FL
