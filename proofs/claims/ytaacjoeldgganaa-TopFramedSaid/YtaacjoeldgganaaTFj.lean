import Derived.Test.YtaacjoeldgganaaSx3
import Derived.Test.YtaacjoeldgganaaSx4
import Derived.Test.YtaacjoeldgganaaTFh
/-! What PutMsg appends with: a number, an entry. -/
namespace Go.Proofs.Ytaacjoeldgganaa.S
open Go.RowKit Go.Proofs.YtaacjoeldgganaaW.PrintWords Go.Proofs.YtaacjoeldgganaaW.PrintLast Go.Proofs.YtaacjoeldgganaaW.PrintMore
set_option linter.unusedVariables false
theorem R_bytes {W : World} {base gb : Nat} {b0 b1 b2 b3 : Int} (h : W.heap[gb]? = some (.cells #[.int .u8 b0, .int .u8 b1, .int .u8 b2, .int .u8 b3] 5 (0, 0))) (hb : base ≤ gb) : Kd.R (Kd.int .u8) 5 W base (fun _ => True) (.slice (some ⟨gb, 0, none⟩) 4 4) [b0, b1, b2, b3] :=
  Kd.R_of_own (enc := fun x : Int => Value.int .u8 x) (xs := [b0, b1, b2, b3]) (show W.ownsRow base 5 1 _ 4 _ from ⟨rfl, .inr ⟨gb, 4, _, rfl, hb, h, Nat.le_refl _, by unfold maxLen; omega, rfl, rfl⟩⟩) (fun _ _ => trivial)
/-- A number behind a row; a block of another type stays. -/
theorem num_step {w W : World} (hB : Below w.heap.size w W) {u : Value} {l : List Int} (hO : Kd.R (Kd.int .u8) 5 W w.heap.size (fun _ => True) u l) {gm : Nat} {cs : Array Value} (hM : W.heap[gm]? = some (.cells cs 32 (0, 0))) {n : Int} (h0 : 0 ≤ n) (h1 : n < 2 ^ 42) (hl : l.length + 7 < 140737488355328) :
    Calls Try.prog 13 #[u, .int .i64 n] W fun e w' => ∃ A nl c, e = .returned (.slice A nl c) ∧ Kd.R (Kd.int .u8) 5 w' w.heap.size (fun _ => True) (.slice A nl c) (l ++ enc n) ∧ Below w.heap.size w w' ∧ w'.heap[gm]? = some (.cells cs 32 (0, 0)) := by
  have hO2 : Kd.R (Kd.int .u8) 5 W w.heap.size (fun k => k ≠ gm) u l := Kd.R_mono (Kd.R_types hO hM (by decide)) (fun _ hk => hk.2)
  refine (wire_number.calls 7 (fun k => k ≠ gm) u l n (l ++ enc n) w W hB hO2 (number_is h0 h1 7 (Nat.le_refl _) l hl)).mono ?_
  rintro e w' ⟨v, rfl, hR, hB', hK⟩
  obtain ⟨A, c, rfl⟩ := Kd.R_slice hR
  exact ⟨A, _, c, rfl, Kd.R_mono hR (fun _ _ => trivial), hB', (hK.2 gm (blk_lt hM) (by simp)).trans hM⟩
/-- What came in reads on where only other blocks turn. -/
theorem C_kept {w W W1 : World} {A : Option Addr} {n : Nat} {xs : List Int} {S : Nat → Prop} (h : Kd.C (Kd.int .u8) w A n xs) (hB : Below w.heap.size w W) (hK : Kept W W1 S) (hS : ∀ k, S k → w.heap.size ≤ k) : Kd.C (Kd.int .u8) W1 A n xs := by
  refine ⟨h.1, h.2.1, fun hp => ?_⟩
  obtain ⟨ad, hA, hc⟩ := h.2.2 hp
  refine ⟨ad, hA, fun j p hj => ?_⟩
  obtain ⟨c, h1, h2, h3⟩ := hc j p hj
  refine ⟨c, h1, h2, fun i u hu => ?_⟩
  have h4 := h3 i u hu
  have hlt := World.block_lt_of_cell? w _ h4
  have h5 := (World.cell?_of_block (hB.block _ hlt)).trans h4
  have hlt2 : (ad.add (j * (Kd.int .u8 : Kd Int).sz + i)).block < W.heap.size := Nat.lt_of_lt_of_le hlt hB.size
  exact (World.cell?_of_block (hK.2 _ hlt2 (fun hs => by have := hS _ hs; omega))).trans h5
/-- An entry behind a row. -/
theorem lay_step {w W : World} (hB : Below w.heap.size w W) {u : Value} {l : List Int} (hO : Kd.R (Kd.int .u8) 5 W w.heap.size (fun _ => True) u l) {gm : Nat} {cs : Array Value} (hM : W.heap[gm]? = some (.cells cs 32 (0, 0))) (x0 x1 x2 : Int) (x3 : List Int) (he : wfE ⟨x0, x1, x2, x3⟩) {A3 : Option Addr} {c3 : Nat} (hr : Kd.C (Kd.int .u8) w A3 x3.length x3) (hc : x3.length ≤ c3) (hl : l.length + 3000 < 140737488355328) :
    Calls Try.prog 14 #[u, .agg #[.int .i64 x0, .int .i64 x1, .int .i64 x2, .slice A3 x3.length c3]] W fun e w' => ∃ A nl c, e = .returned (.slice A nl c) ∧ Kd.R (Kd.int .u8) 5 w' w.heap.size (fun _ => True) (.slice A nl c) (l ++ encE ⟨x0, x1, x2, x3⟩) ∧ Below w.heap.size w w' ∧ w'.heap[gm]? = some (.cells cs 32 (0, 0)) := by
  have hO2 : Kd.R (Kd.int .u8) 5 W w.heap.size (fun k => w.heap.size ≤ k ∧ k ≠ gm) u l := Kd.R_mono (Kd.R_bound (Kd.R_types hO hM (by decide))) (fun _ hk => ⟨hk.2.1, hk.1.2⟩)
  obtain ⟨e1, e2, e3, e4, e5, e6, e7, e8⟩ := he
  simp only at e1 e2 e3 e4 e5 e6 e7 e8
  refine (wire_lay.calls 7 (fun k => w.heap.size ≤ k ∧ k ≠ gm) u l x0 x1 x2 A3 c3 x3 (l ++ encE ⟨x0, x1, x2, x3⟩) w W hB hO2 (fun W_ hk => C_kept hr hB hk (fun _ h => h.1)) hc (lay_is ⟨x0, x1, x2, x3⟩ (by simp only; omega) (by simp only; omega) (by simp only; omega) (by simp only; omega) (by simp only; omega) 7 (Nat.le_refl _) l (by simp only; omega))).mono ?_
  rintro e w' ⟨v, rfl, hR, hB', hK⟩
  obtain ⟨A, c, rfl⟩ := Kd.R_slice hR
  exact ⟨A, _, c, rfl, Kd.R_mono hR (fun _ _ => trivial), hB', (hK.2 gm (blk_lt hM) (by simp)).trans hM⟩
theorem encE_len {e : S48} (h : wfE e) : (encE e).length ≤ 2070 := by
  obtain ⟨_, _, _, _, _, _, _, h8⟩ := h
  have a := enc_len e.f1
  have b := enc_len e.f2
  have c := enc_len e.f3.length
  unfold encE
  simp only [List.length_append, List.length_cons, List.length_nil]
  omega
theorem encEs_len : ∀ {l : List S48}, (∀ e ∈ l, wfE e) → (encEs l).length ≤ 2070 * l.length
  | [], _ => by simp [encEs]
  | e :: l, h => by
    have a := encE_len (h e (by simp))
    have b := encEs_len (l := l) (fun x hx => h x (by simp [hx]))
    have c : encEs (e :: l) = encE e ++ encEs l := by simp [encEs]
    rw [c, List.length_append, List.length_cons]
    omega
end Go.Proofs.Ytaacjoeldgganaa.S
