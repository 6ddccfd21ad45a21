-- Laid by lay.py, a program of this session's, out of the translation (the kit's printer with additions of ours). Lean checks it.
import Derived.Test.YtaacjoeldgganaaSx0
namespace Go.Proofs.Ytaacjoeldgganaa.S
open Go.RowKit Go.Proofs.YtaacjoeldgganaaW.PrintWords Go.Proofs.YtaacjoeldgganaaW.PrintLast Go.Proofs.YtaacjoeldgganaaW.PrintMore
attribute [local go_sem] max2_int min2_int max_two min_two max_three min_three max_four min_four   -- for this text's walks alone
set_option linter.unusedVariables false
set_option linter.unusedSimpArgs false

/-! ### wire_TakeNumber: function 26 -/
theorem wrap_i64 (n : Int) : IntKind.i64.wrap n = wrap64 n := by unfold wrap64; exact IntKind.wrap_i64 n
theorem bits_and127 {x : Int} (h0 : 0 ≤ x) (h1 : x < 2 ^ 62) : Go.bits .and .i64 x 127 = x % 128 := by
  obtain ⟨n, rfl⟩ : ∃ n : Nat, x = (n : Int) := ⟨x.toNat, by omega⟩
  have h2 : Go.bits .and .i64 (n : Int) 127 = IntKind.i64.wrap ((BitVec.ofInt 64 (n : Int) &&& BitVec.ofInt 64 127).toNat : Int) := rfl
  have h3 : (BitVec.ofInt 64 (n : Int) &&& BitVec.ofInt 64 127).toNat = n % 128 := by
    rw [BitVec.toNat_and]
    have a : (BitVec.ofInt 64 (n : Int)).toNat = n := by
      rw [BitVec.ofInt_natCast, BitVec.toNat_ofNat, Nat.mod_eq_of_lt (by omega)]
    have b : (BitVec.ofInt 64 127).toNat = 2 ^ 7 - 1 := by decide
    rw [a, b, Nat.and_two_pow_sub_one_eq_mod]
  rw [h2, h3, wrap_i64]
  unfold wrap64
  omega
theorem bits_or_add {x y : Int} (k : Nat) (hk : k ≤ 60) (hx0 : 0 ≤ x) (hx : x < 2 ^ k) (hy0 : 0 ≤ y) (hs : x + y * 2 ^ k < 2 ^ 62) : Go.bits .or .i64 x (y * 2 ^ k) = x + y * 2 ^ k := by
  obtain ⟨n, rfl⟩ : ∃ n : Nat, x = (n : Int) := ⟨x.toNat, by omega⟩
  obtain ⟨m, rfl⟩ : ∃ m : Nat, y = (m : Int) := ⟨y.toNat, by omega⟩
  have hx' : n < 2 ^ k := by exact_mod_cast hx
  have hs' : n + m * 2 ^ k < 2 ^ 62 := by exact_mod_cast hs
  have hm : m * 2 ^ k < 2 ^ 64 := by omega
  have hn : n < 2 ^ 64 := by omega
  have e : (m : Int) * 2 ^ k = ((m * 2 ^ k : Nat) : Int) := by push_cast; rfl
  rw [e]
  have h2 : Go.bits .or .i64 (n : Int) ((m * 2 ^ k : Nat) : Int) = IntKind.i64.wrap ((BitVec.ofInt 64 (n : Int) ||| BitVec.ofInt 64 ((m * 2 ^ k : Nat) : Int)).toNat : Int) := rfl
  have h3 : (BitVec.ofInt 64 (n : Int) ||| BitVec.ofInt 64 ((m * 2 ^ k : Nat) : Int)).toNat = n + m * 2 ^ k := by
    rw [BitVec.toNat_or, BitVec.ofInt_natCast, BitVec.ofInt_natCast, BitVec.toNat_ofNat, BitVec.toNat_ofNat, Nat.mod_eq_of_lt hn, Nat.mod_eq_of_lt hm]
    have := Nat.shiftLeft_add_eq_or_of_lt hx' m
    rw [Nat.shiftLeft_eq] at this
    rw [Nat.or_comm, ← this, Nat.add_comm]
  rw [h2, h3, wrap_i64]
  unfold wrap64
  omega
/-- A number's bytes. -/
def encF : Nat → Int → List Int
  | 0, _ => []
  | f + 1, n => if n < 128 then [n] else (n % 128 + 128) :: encF f (n / 128)
def enc (n : Int) : List Int := encF 7 n
theorem encF_more : ∀ (f g : Nat) (n : Int), 0 ≤ n → n < 2 ^ (7 * f) → f ≤ g → 0 < f → encF g n = encF f n
  | 0, _, _, _, _, _, h => absurd h (by omega)
  | f + 1, 0, _, _, _, h, _ => absurd h (by omega)
  | f + 1, g + 1, n, h0, h1, hg, _ => by
    unfold encF
    by_cases hn : n < 128
    · rw [if_pos hn, if_pos hn]
    · rw [if_neg hn, if_neg hn]
      cases f with
      | zero => exact absurd h1 (by omega)
      | succ f =>
        rw [encF_more (f + 1) g (n / 128) (by omega) ?_ (by omega) (by omega)]
        have e : (2 : Int) ^ (7 * (f + 1 + 1)) = 128 * 2 ^ (7 * (f + 1)) := by rw [show 7 * (f + 1 + 1) = 7 * (f + 1) + 7 by omega, Int.pow_add]; omega
        rw [e] at h1
        omega
theorem enc_small {n : Int} (h : n < 128) : enc n = [n] := by simp [enc, encF, h]
theorem enc_great {n : Int} (h0 : 128 ≤ n) (h1 : n < 2 ^ 42) : enc n = (n % 128 + 128) :: enc (n / 128) := by
  unfold enc
  rw [show encF 7 n = (n % 128 + 128) :: encF 6 (n / 128) by show (if n < 128 then [n] else (n % 128 + 128) :: encF 6 (n / 128)) = _; rw [if_neg (by omega)]]
  rw [encF_more 6 7 (n / 128) (by omega) (by omega) (by omega) (by omega)]
theorem encF_len : ∀ (f : Nat) (n : Int), (encF f n).length ≤ f
  | 0, _ => by simp [encF]
  | f + 1, n => by
    unfold encF
    split
    · simp
    · simp [encF_len f]
theorem enc_len (n : Int) : (enc n).length ≤ 7 := encF_len 7 n
/-- From a label on: an invariant that bears a number, which every round lowers. -/
def LW1 (P : Program) (r : Code) (Q : Exit → Act → World → Prop) (a : Act) (w : World) : Prop :=
  ∃ (I : Nat → Act → World → Prop) (n₀ : Nat), I n₀ a w ∧ ∀ n a w, I n a w → r.wp P (Exit.jump 0 (fun a' w' => ∃ n', n' < n ∧ I n' a' w') Q) a w
section
variable {P : Program} {a : Act} {w : World} {Q : Exit → Act → World → Prop} {K : Act → World → Prop}
theorem jump_ret {K : Act → World → Prop} : Exit.jump 0 K Q .ret a w = Q .ret a w := rfl
theorem jump_mono {K K' : Act → World → Prop} (h : ∀ a w, K a w → K' a w) (e : Exit) (a : Act) (w : World) (hq : Exit.jump 0 K Q e a w) : Exit.jump 0 K' Q e a w := by
  cases e with
  | goto l => exact ⟨hq.1, h _ _ hq.2⟩
  | normal => exact hq
  | exit id => exact hq
  | ret => exact hq
  | panic ch => exact hq
  | outgrown => exact hq
theorem LW1.enter {r : Code} (hK : ∀ a w, LW1 P r Q a w → K a w) (h : LW1 P r Q a w) : r.wp P (Exit.jump 0 K Q) a w := by
  obtain ⟨I, n₀, h0, hI⟩ := h
  exact wp_mono (hI n₀ a w h0) (jump_mono fun a' w' ⟨n', _, hn'⟩ => hK a' w' ⟨I, n', hn', hI⟩)
theorem wp_scope_one {c r : Code} (hf : findLabel c 0 = some (.seq .skip r)) (first : ∀ K : Act → World → Prop, (∀ a w, LW1 P r Q a w → K a w) → c.wp P (Exit.jump 0 K Q) a w) : (Code.scope c).wp P Q a w := by
  have first := first (fun a w => LW1 P r Q a w) (fun _ _ h => h)
  intro b k cs
  have hg : gotoIn 0 (.inScope c :: k) = some (.code (.seq .skip r) :: .inScope c :: k) := by simp [gotoIn, hf]
  have key : ∀ I : Nat → Act → World → Prop, (∀ n a w, I n a w → r.wp P (Exit.jump 0 (fun a' w' => ∃ n', n' < n ∧ I n' a' w') Q) a w) →
      ∀ n a w, I n a w → ∃ e a' w', Q e a' w' ∧ Arrives P (lone (b.at a (.code (.seq .skip r) :: .inScope c :: k)) cs w) b k cs e a' w' := by
    intro I hI n
    induction n using Nat.strongRecOn with
    | _ n ih =>
      intro a w hJ
      have h : (Code.seq .skip r).wp P (Exit.jump 0 (fun a' w' => ∃ n', n' < n ∧ I n' a' w') Q) a w := wp_seq (wp_skip (hI n a w hJ))
      obtain ⟨e, a₁, w₁, hq, harr⟩ := h b (.inScope c :: k) cs
      cases e with
      | normal => exact ⟨.normal, a₁, w₁, hq, Steps.trans harr (.one step_inScope)⟩
      | exit id => exact ⟨.exit id, a₁, w₁, hq, fun k' hk => harr k' (by simp [exitTo, hk])⟩
      | goto l' =>
        obtain ⟨rfl, n', hlt, hn'⟩ := hq
        obtain ⟨e₂, a₂, w₂, hq₂, harr₂⟩ := ih n' hlt _ _ hn'
        exact ⟨e₂, a₂, w₂, hq₂, .of_steps (harr _ hg) harr₂⟩
      | ret => exact ⟨_, a₁, w₁, hq, harr⟩
      | panic ch => exact ⟨_, a₁, w₁, hq, harr⟩
      | outgrown => exact ⟨_, a₁, w₁, hq, harr⟩
  obtain ⟨e, a₁, w₁, hq, harr⟩ := first b (.inScope c :: k) cs
  cases e with
  | normal => exact ⟨.normal, a₁, w₁, hq, .head step_scope (Steps.trans harr (.one step_inScope))⟩
  | exit id => exact ⟨.exit id, a₁, w₁, hq, fun k' hk => .head step_scope (harr k' (by simp [exitTo, hk]))⟩
  | goto l' =>
    obtain ⟨rfl, I, n₀, hI0, hI⟩ := hq
    obtain ⟨e₂, a₂, w₂, hq₂, harr₂⟩ := key I hI n₀ _ _ hI0
    exact ⟨e₂, a₂, w₂, hq₂, .of_steps (.head step_scope (harr _ hg)) harr₂⟩
  | ret => exact ⟨_, a₁, w₁, hq, .of_steps (.one step_scope) harr⟩
  | panic ch => exact ⟨_, a₁, w₁, hq, .of_steps (.one step_scope) harr⟩
  | outgrown => exact ⟨_, a₁, w₁, hq, .of_steps (.one step_scope) harr⟩
end
set_option maxRecDepth 100000 in
theorem tn_loop {P : Program} {r : Code} {Q : Exit → Act → World → Prop} {w : World} {e0 e1 e2 e3 e4 e5 e6 e7 e8 e9 e10 e11 e12 e13 e14 e15 e16 e17 e18 e19 e20 e21 e22 e23 e24 e25 e26 e27 e28 e29 e30 e31 e32 e33 e34 e35 e36 e37 e38 e39 e40 e41 e42 e43 e44 e45 e46 e47 e48 e49 e50 e51 e52 e53 e54 e55 e56 e57 : Value} (n₀ : Nat) (rel : Nat → Value → Value → World → Prop) (h₀ : rel n₀ e7 e8 w)
    (round : ∀ (gk : Nat) (wr : World) (u7 u8 u9 u18 u19 u20 u21 u22 u23 u24 u25 u26 u27 u28 u29 u30 u31 u32 u33 u34 u35 u36 u37 u38 u39 u40 u41 u42 u43 : Value), rel gk u7 u8 wr → ∀ (J : Nat → Act → World → Prop) (K : Act → World → Prop), (∀ k' a' w', (∃ u7 u8 u9 u18 u19 u20 u21 u22 u23 u24 u25 u26 u27 u28 u29 u30 u31 u32 u33 u34 u35 u36 u37 u38 u39 u40 u41 u42 u43 : Value, rel k' u7 u8 w' ∧ a' = { tmps := #[e0, e1, e2, e3, e4, e5, e6, u7, u8, u9, e10, e11, e12, e13, e14, e15, e16, e17, u18, u19, u20, u21, u22, u23, u24, u25, u26, u27, u28, u29, u30, u31, u32, u33, u34, u35, u36, u37, u38, u39, u40, u41, u42, u43, e44, e45, e46, e47, e48, e49, e50, e51, e52, e53, e54, e55, e56, e57], defers := [] }) → J k' a' w') → (∀ n' a' w', n' < gk → J n' a' w' → K a' w') → r.wp P (Exit.jump 0 K Q) { tmps := #[e0, e1, e2, e3, e4, e5, e6, u7, u8, u9, e10, e11, e12, e13, e14, e15, e16, e17, u18, u19, u20, u21, u22, u23, u24, u25, u26, u27, u28, u29, u30, u31, u32, u33, u34, u35, u36, u37, u38, u39, u40, u41, u42, u43, e44, e45, e46, e47, e48, e49, e50, e51, e52, e53, e54, e55, e56, e57], defers := [] } wr) :
    LW1 P r Q { tmps := #[e0, e1, e2, e3, e4, e5, e6, e7, e8, e9, e10, e11, e12, e13, e14, e15, e16, e17, e18, e19, e20, e21, e22, e23, e24, e25, e26, e27, e28, e29, e30, e31, e32, e33, e34, e35, e36, e37, e38, e39, e40, e41, e42, e43, e44, e45, e46, e47, e48, e49, e50, e51, e52, e53, e54, e55, e56, e57], defers := [] } w := by
  refine ⟨fun k' a' w' => ∃ u7 u8 u9 u18 u19 u20 u21 u22 u23 u24 u25 u26 u27 u28 u29 u30 u31 u32 u33 u34 u35 u36 u37 u38 u39 u40 u41 u42 u43 : Value, rel k' u7 u8 w' ∧ a' = { tmps := #[e0, e1, e2, e3, e4, e5, e6, u7, u8, u9, e10, e11, e12, e13, e14, e15, e16, e17, u18, u19, u20, u21, u22, u23, u24, u25, u26, u27, u28, u29, u30, u31, u32, u33, u34, u35, u36, u37, u38, u39, u40, u41, u42, u43, e44, e45, e46, e47, e48, e49, e50, e51, e52, e53, e54, e55, e56, e57], defers := [] }, n₀, ⟨e7, e8, e9, e18, e19, e20, e21, e22, e23, e24, e25, e26, e27, e28, e29, e30, e31, e32, e33, e34, e35, e36, e37, e38, e39, e40, e41, e42, e43, h₀, rfl⟩, fun n a w hI => ?_⟩
  obtain ⟨u7, u8, u9, u18, u19, u20, u21, u22, u23, u24, u25, u26, u27, u28, u29, u30, u31, u32, u33, u34, u35, u36, u37, u38, u39, u40, u41, u42, u43, hr, rfl⟩ := hI
  exact round n w u7 u8 u9 u18 u19 u20 u21 u22 u23 u24 u25 u26 u27 u28 u29 u30 u31 u32 u33 u34 u35 u36 u37 u38 u39 u40 u41 u42 u43 hr _ _ (fun _ _ _ h => h) (fun n' _ _ hn h => ⟨n', hn, h⟩)
/-- At the label: k bytes are read, m is left. -/
def TnI (p : Nat) (l : List Int) (post : List Int) (n : Int) (k : Nat) (acc m : Int) : Prop :=
  k ≤ 5 ∧ acc + m * 2 ^ (7 * k) = n ∧ 0 ≤ acc ∧ acc < 2 ^ (7 * k) ∧ 0 ≤ m ∧ (0 < k → 0 < m) ∧ l.drop (p + k) = enc m ++ post ∧ (enc n).length = k + (enc m).length
theorem TnI.start {p : Nat} {l post : List Int} {n : Int} (h0 : 0 ≤ n) (hl : l.drop p = enc n ++ post) : TnI p l post n 0 0 n :=
  ⟨by omega, by omega, by omega, by decide, h0, fun h => absurd h (by omega), hl, by omega⟩
theorem TnI.step {p : Nat} {l post : List Int} {n : Int} (h1 : n ≤ 1099511627776) {k : Nat} {acc m : Int} (h : TnI p l post n k acc m) (hm : 128 ≤ m) :
    rd l ((p + k : Nat) : Int) = m % 128 + 128 ∧ p + k < l.length ∧ k + 1 ≤ 5 ∧ TnI p l post n (k + 1) (acc + m % 128 * 2 ^ (7 * k)) (m / 128) := by
  obtain ⟨a1, a2, a3, a4, a5, a6, a7, a8⟩ := h
  have hm42 : m < 2 ^ 42 := by
    have h2 : (0 : Int) < 2 ^ (7 * k) := Int.pow_pos (by decide)
    have : m * 1 ≤ m * 2 ^ (7 * k) := Int.mul_le_mul_of_nonneg_left (by omega) a5
    omega
  rw [enc_great hm hm42] at a7 a8
  have hk : k + 1 ≤ 5 := by
    rcases Nat.lt_or_ge k 5 with h5 | h5
    · omega
    · have : k = 5 := by omega
      subst this
      omega
  have hlt : p + k < l.length := by
    have := congrArg List.length a7
    simp at this
    omega
  have hd := List.drop_eq_getElem_cons hlt
  rw [a7] at hd
  simp only [List.cons_append, List.cons.injEq] at hd
  refine ⟨?_, hlt, hk, hk, ?_, ?_, ?_, by omega, fun _ => by omega, ?_, ?_⟩
  · unfold rd
    rw [Int.toNat_natCast, List.getD_eq_getElem?_getD, List.getElem?_eq_getElem hlt, Option.getD_some, hd.1]
  · rw [show 7 * (k + 1) = 7 * k + 7 by omega, Int.pow_add, ← a2]
    have : m = m % 128 + m / 128 * 2 ^ 7 := by omega
    generalize (2 : Int) ^ (7 * k) = z
    conv => rhs; rw [this]
    rw [Int.add_mul, Int.mul_comm z, ← Int.mul_assoc, Int.add_assoc]
  · have : 0 ≤ m % 128 * 2 ^ (7 * k) := Int.mul_nonneg (by omega) (Int.pow_nonneg (by decide))
    omega
  · rw [show 7 * (k + 1) = 7 * k + 7 by omega, Int.pow_add]
    have h7 : m % 128 * 2 ^ (7 * k) ≤ 127 * 2 ^ (7 * k) := Int.mul_le_mul_of_nonneg_right (by omega) (Int.pow_nonneg (by decide))
    omega
  · rw [← Nat.add_assoc, ← hd.2]
  · simp at a8
    omega
theorem TnI.last {p : Nat} {l post : List Int} {n : Int} {k : Nat} {acc m : Int} (h : TnI p l post n k acc m) (hm : m < 128) :
    rd l ((p + k : Nat) : Int) = m ∧ p + k < l.length ∧ acc + m * 2 ^ (7 * k) = n ∧ (m = 0 → k = 0) ∧ (enc n).length = k + 1 ∧ 0 ≤ m ∧ 0 ≤ acc ∧ acc < 2 ^ (7 * k) ∧ k ≤ 5 := by
  obtain ⟨a1, a2, a3, a4, a5, a6, a7, a8⟩ := h
  rw [enc_small hm] at a7 a8
  have hlt : p + k < l.length := by
    have := congrArg List.length a7
    simp at this
    omega
  have hd := List.drop_eq_getElem_cons hlt
  rw [a7] at hd
  simp only [List.cons_append, List.nil_append, List.cons.injEq] at hd
  refine ⟨?_, hlt, a2, fun h => by omega, by simpa using a8, a5, a3, a4, a1⟩
  unfold rd
  rw [Int.toNat_natCast, List.getD_eq_getElem?_getD, List.getElem?_eq_getElem hlt, Option.getD_some, hd.1]
theorem wr (x : Int) (h0 : -9223372036854775808 ≤ x) (h1 : x ≤ 9223372036854775807) : wrap64 x = x := by unfold wrap64; omega
theorem and_hi {m : Int} (h0 : 0 ≤ m) : Go.bits .and .i64 (m % 128 + 128) 127 = m % 128 := by
  rw [bits_and127 (by omega) (by omega)]
  omega
theorem and_lo {m : Int} (h0 : 0 ≤ m) (h1 : m < 128) : Go.bits .and .i64 m 127 = m := by
  rw [bits_and127 (by omega) (by omega)]
  omega
theorem s7 (k : Nat) : (7 * (k : Int)).toNat = 7 * k := by omega
theorem sumF {n acc y : Int} {k : Nat} (h1 : n ≤ 1099511627776) (hk : k ≤ 5) (h3 : 0 ≤ acc) (h4 : acc < 2 ^ (7 * k)) (hy : 0 ≤ y) (hs : acc + y * 2 ^ (7 * k) ≤ n) :
    wrap64 (y * 2 ^ (7 * k)) = y * 2 ^ (7 * k) ∧ Go.bits .or .i64 acc (y * 2 ^ (7 * k)) = acc + y * 2 ^ (7 * k) := by
  have h2 : (0 : Int) < 2 ^ (7 * k) := Int.pow_pos (by decide)
  have h5 : 0 ≤ y * 2 ^ (7 * k) := Int.mul_nonneg hy (by omega)
  refine ⟨wr _ (by omega) (by omega), bits_or_add (7 * k) (by omega) h3 h4 hy (by omega)⟩
theorem TnI.sumHi {p : Nat} {l post : List Int} {n : Int} (h1 : n ≤ 1099511627776) {k : Nat} {acc m : Int} (h : TnI p l post n k acc m) :
    wrap64 (m % 128 * 2 ^ (7 * k)) = m % 128 * 2 ^ (7 * k) ∧ Go.bits .or .i64 acc (m % 128 * 2 ^ (7 * k)) = acc + m % 128 * 2 ^ (7 * k) := by
  obtain ⟨a1, a2, a3, a4, a5, a6, a7, a8⟩ := h
  have h2 : (0 : Int) < 2 ^ (7 * k) := Int.pow_pos (by decide)
  have : m % 128 * 2 ^ (7 * k) ≤ m * 2 ^ (7 * k) := Int.mul_le_mul_of_nonneg_right (by omega) (by omega)
  exact sumF h1 a1 a3 a4 (by omega) (by omega)
theorem TnI.sumLo {p : Nat} {l post : List Int} {n : Int} (h1 : n ≤ 1099511627776) {k : Nat} {acc m : Int} (h : TnI p l post n k acc m) :
    wrap64 (m * 2 ^ (7 * k)) = m * 2 ^ (7 * k) ∧ Go.bits .or .i64 acc (m * 2 ^ (7 * k)) = n := by
  obtain ⟨a1, a2, a3, a4, a5, a6, a7, a8⟩ := h
  have := sumF h1 a1 a3 a4 a5 (by omega)
  exact ⟨this.1, this.2.trans a2⟩
set_option maxHeartbeats 8000000 in
set_option maxRecDepth 100000 in
theorem take_number (p : Nat) (post : List Int) {n : Int} (h0 : 0 ≤ n) (h1 : n ≤ 1099511627776) (A : Option Addr) (c : Nat) (l : List Int) (hl : l.drop p = enc n ++ post) (hp : p ≤ l.length) (hlen : l.length < 2 ^ 60) (w : World) (hr : Kd.C (Kd.int .u8) w A l.length l) :
    Calls Try.prog 26 #[.slice A l.length c, .int .i64 p] w fun e w' => e = .returned (.tuple #[.int .i64 n, .int .i64 (p + (enc n).length : Nat), .int .i64 0]) ∧ Drawn0 w w' := by
  have HR := Aside0.mk hr
  have HI := Aside0.mk (TnI.start h0 hl)
  have HL := Aside0.mk hlen
  have HP := Aside0.mk hp
  have c0 : decide ((p : Int) < 0) = false := decide_eq_false (by omega)
  have c1 : decide ((l.length : Int) < (p : Int)) = false := decide_eq_false (by omega)
  clear hr hl
  go_enter Try.func26, Try.ntmps26
  go_wp2
  refine wp_scope_one rfl fun K hK => ?_
  have HK := Aside0.mk hK
  clear hK
  go_wp2
  go_step3
  go_step
  go_step
  refine LW1.enter HK.out ?_
  refine tn_loop 6 (fun n' v7 v8 w' => ∃ (k : Nat) (acc m : Int), v7 = .int .i64 acc ∧ v8 = .int .i64 k ∧ Aside0 (TnI p l post n k acc m) ∧ Aside0 (n' + k = 6) ∧ Drawn0 w w') ?atStart ?round
  case atStart => exact ⟨0, 0, n, rfl, rfl, HI, ⟨by omega⟩, by repeat (first | exact Drawn0.refl _ | apply Drawn0.step)⟩
  case round =>
    intro gk wr u7 u8 u9 u18 u19 u20 u21 u22 u23 u24 u25 u26 u27 u28 u29 u30 u31 u32 u33 u34 u35 u36 u37 u38 u39 u40 u41 u42 u43 ⟨k, acc, m, e7, e8, HI, HN, ⟨nd, ew⟩⟩ J K hJ hK
    subst e7 e8 ew
    have HJ := Aside0.mk hJ
    have HK2 := Aside0.mk hK
    clear hJ hK HK
    dsimp only
    by_cases hm : m < 128
    · obtain ⟨t1, t2, t3, t4, t5, t6, t7, t8, t9⟩ := HI.out.last hm
      obtain ⟨s1, s2⟩ := HI.out.sumLo h1
      obtain ⟨x, hx⟩ : ∃ x : Int, x = ((p + k : Nat) : Int) := ⟨_, rfl⟩
      obtain ⟨kk, hkk⟩ : ∃ kk : Nat, kk = k + 1 := ⟨_, rfl⟩
      obtain ⟨q, hq⟩ : ∃ q : Nat, q = p + (enc n).length := ⟨_, rfl⟩
      have hq2 : q = p + kk := by omega
      have g1 : 0 ≤ x := by omega
      have g2 : x < (l.length : Int) := by omega
      have f2 : (x == (l.length : Int)) = false := beq_eq_false_iff_ne.mpr (by omega)
      have f6 : decide (128 ≤ m) = false := decide_eq_false (by omega)
      have f9 : decide (1099511627776 < n) = false := decide_eq_false (by omega)
      have s3 : (0 ≤ 7 * (k : Int)) = True := eq_true (by omega)
      have s4 : (7 * (k : Int) ≤ 64) = True := eq_true (by omega)
      have f8 : (m == 0) = true → decide (1 < (k : Int) + 1) = false := fun h => decide_eq_false (by have := t4 (by simpa using h); omega)
      have f1 : wrap64 ((p : Int) + (k : Int)) = x := (wr _ (by omega) (by omega)).trans (by omega)
      have f3 : wrap64 m = m := wr _ (by clear f1; omega) (by clear f1; omega)
      have f4 := and_lo t6 hm
      have f5 : wrap64 (7 * (k : Int)) = 7 * (k : Int) := wr _ (by clear f1 f3 s1; omega) (by clear f1 f3 s1; omega)
      have f7 : wrap64 ((k : Int) + 1) = (kk : Int) := (wr _ (by clear f1 f3 f5 s1; omega) (by clear f1 f3 f5 s1; omega)).trans (by clear f1 f3 f5 s1; omega)
      have f12 : wrap64 ((k : Int) + 1) = (k : Int) + 1 := (wr _ (by clear f1 f3 f5 s1 f7; omega) (by clear f1 f3 f5 s1 f7; omega))
      have f10 : wrap64 ((p : Int) + ((k : Int) + 1)) = (q : Int) := (wr _ (by clear f1 f3 f5 s1 f7 f12; omega) (by clear f1 f3 f5 s1 f7 f12; omega)).trans (by clear f1 f3 f5 s1 f7 f12; omega)
      have s5 := s7 k
      have smin : min (7 * k) 64 = 7 * k := by clear f1 f3 f5 s1 f7 f10 f12; omega
      obtain ⟨ad, ea, hx0⟩ := Kd.at_int HR.out x g1 g2
      rw [← hx] at t1
      rw [t1] at hx0
      cases ea
      replace g1 := eq_true g1
      replace g2 := eq_true g2
      clear f7 f12 t1 t2 t3 t4 t5 t6 t7 t8 t9 hx hm hp hlen h0 h1 HI c0 hq2 hkk HJ HK2
      have HQ := Aside0.mk hq
      clear hq
      by_cases hz : (m == 0) = true
      · have f11 := f8 hz
        clear f8
        repeat' go_step
        simp only [jump_ret]
        go_ret3
        exact ⟨by rw [f10, HQ.out]; rfl, ⟨nd, rfl⟩⟩
      · have hz : (m == 0) = false := by simpa using hz
        clear f8
        repeat' go_step
        simp only [jump_ret]
        go_ret3
        exact ⟨by rw [f10, HQ.out]; rfl, ⟨nd, rfl⟩⟩
    · obtain ⟨t1, t2, t3, t4⟩ := HI.out.step h1 (by omega)
      have b1 := HI.out.1
      have b5 := HI.out.2.2.2.2.1
      obtain ⟨s1, s2⟩ := HI.out.sumHi h1
      obtain ⟨x, hx⟩ : ∃ x : Int, x = ((p + k : Nat) : Int) := ⟨_, rfl⟩
      have g1 : 0 ≤ x := by omega
      have g2 : x < (l.length : Int) := by omega
      have f2 : (x == (l.length : Int)) = false := beq_eq_false_iff_ne.mpr (by omega)
      have f6 : decide (128 ≤ m % 128 + 128) = true := decide_eq_true (by omega)
      obtain ⟨kk, hkk⟩ : ∃ kk : Nat, kk = k + 1 := ⟨_, rfl⟩
      have f8 : ((kk : Int) == 6) = false := beq_eq_false_iff_ne.mpr (by omega)
      have f8b : ((k : Int) + 1 == 6) = false := beq_eq_false_iff_ne.mpr (by omega)
      have s3 : (0 ≤ 7 * (k : Int)) = True := eq_true (by omega)
      have s4 : (7 * (k : Int) ≤ 64) = True := eq_true (by omega)
      have f1 : wrap64 ((p : Int) + (k : Int)) = x := (wr _ (by omega) (by omega)).trans (by omega)
      have f3 : wrap64 (m % 128 + 128) = m % 128 + 128 := wr _ (by clear f1; omega) (by clear f1; omega)
      have f4 := and_hi b5
      have f5 : wrap64 (7 * (k : Int)) = 7 * (k : Int) := wr _ (by clear f1 f3 s1; omega) (by clear f1 f3 s1; omega)
      have f7 : wrap64 ((k : Int) + 1) = (kk : Int) := (wr _ (by clear f1 f3 f5 s1; omega) (by clear f1 f3 f5 s1; omega)).trans (by clear f1 f3 f5 s1; omega)
      have s5 := s7 k
      obtain ⟨ad, ea, hx0⟩ := Kd.at_int HR.out x g1 g2
      rw [← hx] at t1
      rw [t1] at hx0
      cases ea
      replace g1 := eq_true g1
      replace g2 := eq_true g2
      rw [← hkk] at t3 t4
      have HT := Aside0.mk t4
      have HK1 := Aside0.mk t3
      have HKK := Aside0.mk hkk
      clear hkk
      have smin : min (7 * k) 64 = 7 * k := by omega
      clear t1 t2 t3 t4 b1 b5 hx hm hp hlen h0 h1 HI c0
      repeat' go_step
      refine wp_goto ?_
      refine ⟨rfl, HK2.out (gk - 1) _ _ (by have := HN.out; have := HK1.out; have := HKK.out; omega) (HJ.out _ _ _ ⟨_, _, _, _, _, _, _, _, _, _, _, _, _, _, _, _, _, _, _, _, _, _, _, _, _, _, _, _, _, ⟨kk, acc + m % 128 * 2 ^ (7 * k), m / 128, by first | rfl | rw [s1, s2] | rw [smin, s1, s2], by first | rw [f7] | (rw [HKK.out]; rfl), HT, ⟨by have := HN.out; have := HK1.out; have := HKK.out; omega⟩, ⟨nd, rfl⟩⟩, rfl⟩)⟩
/-- A number that a row begins with, and how many bytes it takes. -/
def decF : Nat → List Int → Option (Int × Nat)
  | 0, _ => none
  | _ + 1, [] => none
  | f + 1, c :: s => if c < 128 then some (c, 1) else (decF f s).map fun x => (x.1 * 128 + (c - 128), x.2 + 1)
/-- TakeNumber, where a number stands. -/
def wire_TakeNumber.f (l0 : List Int) (a1 : Int) : Option (Int × Int × Int) :=
  if 0 ≤ a1 ∧ a1 ≤ l0.length ∧ l0.length < 1152921504606846976 then
    (decF 7 (l0.drop a1.toNat)).bind fun x => if 0 ≤ x.1 ∧ x.1 ≤ 1099511627776 ∧ enc x.1 ++ (l0.drop a1.toNat).drop x.2 = l0.drop a1.toNat then some (x.1, a1 + (enc x.1).length, 0) else none
  else none
theorem wire_TakeNumber.calls (A0 : Option Addr) (c0 : Nat) (l0 : List Int) (a1 : Int) (r1 : Int) (r2 : Int) (r3 : Int) (w : World) (hr0 : Kd.C (Kd.int .u8) w A0 l0.length l0) (h : wire_TakeNumber.f l0 a1 = some (r1, r2, r3)) :
    Calls Try.prog 26 #[.slice A0 l0.length c0, .int .i64 a1] w fun e w' => e = .returned (.tuple #[.int .i64 r1, .int .i64 r2, .int .i64 r3]) ∧ Drawn0 w w' := by
  unfold wire_TakeNumber.f at h
  by_cases h1 : 0 ≤ a1 ∧ a1 ≤ l0.length ∧ l0.length < 1152921504606846976
  case neg => rw [if_neg h1] at h; cases h
  rw [if_pos h1] at h
  obtain ⟨⟨n, j⟩, hd, h⟩ := Option.bind_eq_some_iff.1 h
  simp only at h
  by_cases h2 : 0 ≤ n ∧ n ≤ 1099511627776 ∧ enc n ++ (l0.drop a1.toNat).drop j = l0.drop a1.toNat
  case neg => rw [if_neg h2] at h; cases h
  rw [if_pos h2] at h
  simp only [Option.some.injEq, Prod.mk.injEq] at h
  obtain ⟨rfl, rfl, rfl⟩ := h
  obtain ⟨p, rfl⟩ : ∃ p : Nat, a1 = (p : Int) := ⟨a1.toNat, by omega⟩
  rw [Int.toNat_natCast] at h2
  have := take_number p ((l0.drop p).drop j) h2.1 h2.2.1 A0 c0 l0 h2.2.2.symm (by omega) (by omega) w hr0
  rw [Int.natCast_add] at this
  exact this
theorem decF_enc (post : List Int) : ∀ (f : Nat) (n : Int), 0 < f → 0 ≤ n → n < 2 ^ (7 * f) → decF f (encF f n ++ post) = some (n, (encF f n).length)
  | 0, n, hf, h0, h1 => absurd hf (by omega)
  | f + 1, n, hf, h0, h1 => by
    unfold encF
    by_cases hn : n < 128
    · rw [if_pos hn]
      show (if n < 128 then some (n, 1) else _) = _
      rw [if_pos hn]
      rfl
    · rw [if_neg hn]
      show (if n % 128 + 128 < 128 then _ else (decF f (encF f (n / 128) ++ post)).map _) = _
      rw [if_neg (by omega)]
      have e : (2 : Int) ^ (7 * (f + 1)) = 128 * 2 ^ (7 * f) := by rw [show 7 * (f + 1) = 7 * f + 7 by omega, Int.pow_add]; omega
      rw [e] at h1
      have hf0 : 0 < f := by
        cases f with
        | zero => exact absurd h1 (by omega)
        | succ f => omega
      rw [decF_enc post f (n / 128) hf0 (by omega) (by omega)]
      simp only [Option.map_some, List.length_cons, Option.some.injEq, Prod.mk.injEq, and_true]
      omega
/-- What stands there is read. -/
theorem TakeNumber_is {l post : List Int} {p : Nat} {n : Int} (h0 : 0 ≤ n) (h1 : n ≤ 1099511627776) (hl : l.drop p = enc n ++ post) (hp : p ≤ l.length) (hlen : l.length < 1152921504606846976) :
    wire_TakeNumber.f l p = some (n, ((p + (enc n).length : Nat) : Int), 0) := by
  unfold wire_TakeNumber.f
  rw [if_pos (by omega), Int.toNat_natCast, hl]
  have hd : decF 7 (enc n ++ post) = some (n, (enc n).length) := decF_enc post 7 n (by omega) h0 (by omega)
  rw [hd]
  simp only [Option.bind_some]
  rw [if_pos ⟨h0, h1, by rw [List.drop_left]⟩, Int.natCast_add]


end Go.Proofs.Ytaacjoeldgganaa.S
