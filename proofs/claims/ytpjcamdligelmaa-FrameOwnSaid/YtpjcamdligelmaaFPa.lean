/- Plain facts on the sum of bytes (CRC-32) and on frames, and that the reference's functions compute just these. -/
import Derived.Test.YtpjcamdligelmaaQx2
import Derived.Test.YtpjcamdligelmaaQx4
import Derived.Test.YtpjcamdligelmaaQx8
import Derived.Test.YtpjcamdligelmaaQx9
namespace Go.Proofs.Ytpjcamdligelmaa.FP
open Go.RowKit Go.Proofs.Ytpjcamdligelmaa.Q Go.Proofs.YtpjcamdligelmaaW.PrintWords Go.Proofs.YtpjcamdligelmaaW.PrintLast Go.Proofs.YtpjcamdligelmaaW.PrintMore

theorem Ev.pos {α : Type} {c : Prop} [Decidable c] {a b : Nat → Option α} {r : α} (hc : c) (h : Ev a r) : Ev (fun k => if c then a k else b k) r := Ev.congr (fun _ => if_pos hc) h
theorem Ev.neg {α : Type} {c : Prop} [Decidable c] {a b : Nat → Option α} {r : α} (hc : ¬ c) (h : Ev b r) : Ev (fun k => if c then a k else b k) r := Ev.congr (fun _ => if_neg hc) h
theorem Ev.put {α β : Type} {x : β} {f : Nat → β → Option α} {r : α} (h : Ev (fun k => f k x) r) : Ev (fun k => (some x).bind (f k)) r := h
theorem Ev.call {α β : Type} {g : Option β} {x : β} {f : Nat → β → Option α} {r : α} (hg : g = some x) (h : Ev (fun k => f k x) r) : Ev (fun k => g.bind (f k)) r := by rw [hg]; exact h
theorem B8_of {l : List Int} (h : ∀ x ∈ l, (Lit.int .u8 x).wf = true) : B8 l := by
  intro x hx
  have := h x hx
  simp [Lit.wf, IntKind.min, IntKind.max, IntKind.signed, IntKind.bits] at this
  omega
/-! the reference's sum -/
theorem u32i_if (c : Bool) : (if c then (1 : Int) else 0) = u32i (if c then 1#32 else 0#32) := by cases c <;> decide
theorem lsb_if (c : Bool) : (if c then 1#32 else 0#32).getLsbD 0 = c := by cases c <;> decide
theorem shr_u8 (C : BitVec 32) (j : Nat) (hj : j < 8) : shr .u8 (u32i C) (IntKind.u64.wrap (j : Int)) = u32i (C >>> j) := by
  have hw : IntKind.u64.wrap (j : Int) = (j : Int) := by
    simp only [IntKind.wrap, IntKind.signed, IntKind.bits]; simp; omega
  unfold shr u32i
  rw [hw, Int.toNat_natCast, BitVec.toNat_ushiftRight, Nat.shiftRight_eq_div_pow, Nat.min_eq_left (by simp [IntKind.bits]; omega)]
  simp
theorem rExt_in (l : List Int) (i : Nat) (hi : i < l.length) (C : BitVec 32) (hC : rd l (i : Int) = u32i C) (res : Int) : ∀ (d j : Nat), j + d = 8 → ∀ p q : BitVec 32,
    q = (Nat.rec (motive := fun _ => BitVec 32 → BitVec 32) (fun b => b) (fun _ f b => f (fst1 b)) d : BitVec 32 → BitVec 32) p →
    Ev (fun k => tollgateref01_Extend.l0 k l (u32i (q ^^^ (C >>> 8))) (wrap64 ((i : Int) + 1))) res →
    Ev (fun k => tollgateref01_Extend.l1 k l (u32i (p ^^^ (C >>> j))) (i : Int) (j : Int)) res := by
  intro d
  induction d with
  | zero =>
    intro j hj p q hq h
    obtain rfl : j = 8 := by omega
    subst hq
    exact Ev.step (fun k => by simp only [tollgateref01_Extend.l1]; rw [if_neg (by omega)]) h
  | succ d ih =>
    intro j hj p q hq h
    refine Ev.step (f := fun k => tollgateref01_Extend.l1 k l (u32i (fst1 p ^^^ (C >>> (j + 1)))) (i : Int) ((j + 1 : Nat) : Int)) (fun k => ?_) (ih (j + 1) (by omega) (fst1 p) q hq h)
    have hw0 : 0 ≤ IntKind.u64.wrap (j : Int) := by
      simp only [IntKind.wrap, IntKind.signed, IntKind.bits]; simp; omega
    have hr1 := u32i_range (C >>> j)
    have hr2 := u32i_range (p ^^^ (C >>> j))
    simp only [tollgateref01_Extend.l1]
    rw [if_pos (by omega), if_pos (by omega), if_pos (by omega), if_pos hw0, hC, shr_u8 C j (by omega), Int.emod_eq_of_lt hr1.1 hr1.2, u32i_and1, u32i_if, u32i_xor, u32i_and1,
      Int.tdiv_eq_ediv_of_nonneg hr2.1, Int.emod_eq_of_lt (by omega) (by omega), u32i_half, wrap_one (n := 9) (by omega) (by omega) (by omega), u32i_poly]
    have hb : (p ^^^ (C >>> j) ^^^ (if (C >>> j).getLsbD 0 then 1#32 else 0#32)).getLsbD 0 = p.getLsbD 0 := by
      rw [BitVec.getLsbD_xor, BitVec.getLsbD_xor, lsb_if, Bool.xor_assoc, Bool.xor_self, Bool.xor_false]
    have hs : (p ^^^ (C >>> j)) >>> 1 = (p >>> 1) ^^^ (C >>> (j + 1)) := by
      rw [BitVec.ushiftRight_xor_distrib, BitVec.shiftRight_add]
    rw [hb, hs]
    unfold fst1
    by_cases hp : p.getLsbD 0 = true
    · rw [if_pos hp, if_pos rfl, if_pos hp, BitVec.xor_assoc, BitVec.xor_assoc, BitVec.xor_comm (C >>> (j + 1))]
      rfl
    · rw [if_neg hp, if_neg (by omega), if_neg hp, BitVec.xor_zero]
      rfl
theorem rExt_out (l : List Int) (hl : l.length ≤ 140737488355328) (hB : B8 l) : ∀ (d : Nat) (i : Nat), i + d = l.length → ∀ r : BitVec 32, Ev (fun k => tollgateref01_Extend.l0 k l (u32i r) (i : Int)) (u32i (~~~ fex r (l.drop i))) := by
  intro d
  induction d with
  | zero =>
    intro i hi r
    refine Ev.step (f := fun _ => some (u32i (~~~ fex r (l.drop i)))) (fun k => ?_) (Ev.now _)
    simp only [tollgateref01_Extend.l0]
    rw [if_neg (by omega), u32i_not2, List.drop_eq_nil_of_le (by omega)]
    rfl
  | succ d ih =>
    intro i hi r
    have hlt : i < l.length := by omega
    have hr := rd_B8 hB (i : Int)
    have hd : l.drop i = rd l (i : Int) :: l.drop (i + 1) := by
      rw [List.drop_eq_getElem_cons hlt]
      simp [rd, List.getD_eq_getElem?_getD, List.getElem?_eq_getElem hlt]
    have hC : rd l (i : Int) = u32i (BitVec.ofInt 32 (rd l (i : Int))) := (u32i_ofInt _ (by omega) (by omega)).symm
    generalize hCC : BitVec.ofInt 32 (rd l (i : Int)) = C at hC
    have h8 : C >>> 8 = 0#32 := by
      apply BitVec.eq_of_toNat_eq
      rw [BitVec.toNat_ushiftRight, Nat.shiftRight_eq_div_pow]
      unfold u32i at hC
      simp
      omega
    have h := ih (i + 1) (by omega) (fbyte r (rd l (i : Int)))
    rw [show ((i + 1 : Nat) : Int) = wrap64 ((i : Int) + 1) from by rw [wrap_one (n := l.length) (by omega) (by omega) (by omega)]; omega] at h
    have h2 := rExt_in l i hlt C hC _ 8 0 rfl (r ^^^ C) (fbyte r (rd l (i : Int))) (by unfold fbyte; rw [hCC]; rfl) (by rw [h8, BitVec.xor_zero]; exact h)
    refine Ev.step (f := fun k => tollgateref01_Extend.l1 k l (u32i r) (i : Int) 0) (fun k => ?_) ?_
    · simp only [tollgateref01_Extend.l0]
      rw [if_pos (by omega)]
    · have hx : r ^^^ C ^^^ (C >>> 0) = r := by
        rw [BitVec.ushiftRight_zero, BitVec.xor_assoc, BitVec.xor_self, BitVec.xor_zero]
      rw [hx] at h2
      rw [hd]
      exact h2
theorem rExtend_is (s : Int) (l : List Int) (hs0 : 0 ≤ s) (hs : s < 4294967296) (hl : l.length ≤ 140737488355328) (hB : B8 l) : Ev (fun k => tollgateref01_Extend.f k s l) (fextend s l) := by
  have h := rExt_out l hl hB l.length 0 (by omega) (~~~ BitVec.ofInt 32 s)
  refine Ev.congr (fun k => ?_) h
  simp only [tollgateref01_Extend.f]
  rw [← u32i_not2, u32i_ofInt s hs0 hs]
  rfl
theorem rSum_is (l : List Int) (hl : l.length ≤ 140737488355328) (hB : B8 l) : Ev (fun k => tollgateref01_Sum.f k l) (fextend 0 l) := by
  refine Ev.congr (f := fun k => tollgateref01_Extend.f k 0 l) (fun k => ?_) (rExtend_is 0 l (by omega) (by omega) hl hB)
  simp [tollgateref01_Sum.f]
end Go.Proofs.Ytpjcamdligelmaa.FP
