/- FrameTurned: one bit turned in the sum or in what a frame holds is told as ErrSum, for every bytes and every bit. No condition. -/
import Derived.Test.YtpjcamdligelmaaQx18
import Derived.Test.YtpjcamdligelmaaFPb
namespace Go.Proofs.Ytpjcamdligelmaa.Pure
open Go.RowKit Go.Proofs.Ytpjcamdligelmaa.Q Go.Proofs.Ytpjcamdligelmaa.FP Go.Proofs.YtpjcamdligelmaaW.PrintWords Go.Proofs.YtpjcamdligelmaaW.PrintLast Go.Proofs.YtpjcamdligelmaaW.PrintMore
theorem i64_of {a : Int} (h : (Lit.int .i64 a).wf = true) : -9223372036854775808 ≤ a ∧ a ≤ 9223372036854775807 := by
  simp [Lit.wf, IntKind.min, IntKind.max, IntKind.signed, IntKind.bits] at h; omega
theorem getD_set_self (l : List Int) (i : Nat) (c : Int) (h : i < l.length) : (l.set i c).getD i 0 = c := by
  simp [List.getD_eq_getElem?_getD, h]
theorem getD_set_ne (l : List Int) (i j : Nat) (c : Int) (h : i ≠ j) : (l.set i c).getD j 0 = l.getD j 0 := by
  simp [List.getD_eq_getElem?_getD, h]
theorem get4_set (l : List Int) (i : Nat) (c : Int) (h : 4 ≤ i) : get4 (l.set i c) = get4 l := by
  unfold get4
  rw [getD_set_ne _ _ _ _ (by omega), getD_set_ne _ _ _ _ (by omega), getD_set_ne _ _ _ _ (by omega), getD_set_ne _ _ _ _ (by omega)]
theorem get4_inj {a b : List Int} (ha : B8 a) (hb : B8 b) (h : get4 a = get4 b) : ∀ j, j < 4 → a.getD j 0 = b.getD j 0 := by
  have a0 := getD_B8 ha 0
  have a1 := getD_B8 ha 1
  have a2 := getD_B8 ha 2
  have a3 := getD_B8 ha 3
  have b0 := getD_B8 hb 0
  have b1 := getD_B8 hb 1
  have b2 := getD_B8 hb 2
  have b3 := getD_B8 hb 3
  unfold get4 at h
  intro j hj
  match j, hj with
  | 0, _ => omega
  | 1, _ => omega
  | 2, _ => omega
  | 3, _ => omega
/-- a byte of a frame turned, from its sum on -/
theorem nextOf_turned (l : List Int) (hB : B8 l) (hl : l.length ≤ 65536) (i : Nat) (c : Int) (h4 : 4 ≤ i) (hi : i < 8 + l.length) (hc0 : 0 ≤ c) (hc : c ≤ 255) (hne : c ≠ (frameBytes l).getD i 0) : nextOf ((frameBytes l).set i c) 0 = ([], 0, 5) := by
  have hFl := frameBytes_length l
  have hFB := frameBytes_B8 l hB
  have hlen : get4 ((frameBytes l).set i c) = (l.length : Int) := by
    have e := get4_four (l.length : Int) (by omega) (by omega) (four (fextend (fextend 0 (four l.length)) l) ++ l)
    change get4 (frameBytes l) = _ at e
    rw [← e]
    exact get4_set _ _ _ h4
  have ht4 : ((frameBytes l).set i c).take 4 = four l.length := by
    rw [List.take_set_of_le (by omega)]
    unfold frameBytes
    exact List.take_left' (four_length _)
  have hd4 : (frameBytes l).drop 4 = four (fextend (fextend 0 (four l.length)) l) ++ l := by unfold frameBytes; exact List.drop_left' (four_length _)
  have hd8 : (frameBytes l).drop 8 = l := by
    rw [show 8 = 4 + 4 from rfl, ← List.drop_drop, hd4]
    exact List.drop_left' (four_length _)
  unfold nextOf
  rw [if_neg (by omega), show (0 : Int).toNat = 0 from rfl, List.drop_zero, if_neg (by rw [List.length_set]; omega), hlen, if_neg (by omega), if_neg (by rw [List.length_set]; omega), Int.toNat_natCast, ht4, if_pos ?_]
  have hr := fextend_range (fextend 0 (four l.length)) l
  rcases Nat.lt_or_ge i 8 with h8 | h8
  · -- the sum
    rw [List.drop_set_of_lt h8, hd8, List.take_length, List.drop_set, if_neg (by omega), hd4]
    intro h
    have e := get4_four _ hr.1 hr.2 l
    have hBs : B8 (four (fextend (fextend 0 (four l.length)) l) ++ l) := B8_append (B8_four _ hr.1) hB
    have hBs2 : B8 ((four (fextend (fextend 0 (four l.length)) l) ++ l).set (i - 4) c) := by
      intro x hx
      rcases List.mem_or_eq_of_mem_set hx with h | rfl
      · exact hBs x h
      · exact ⟨hc0, hc⟩
    have := get4_inj hBs hBs2 (by rw [e, ← h]) (i - 4) (by omega)
    rw [getD_set_self _ _ _ (by rw [List.length_append, four_length]; omega)] at this
    apply hne
    rw [← this, ← hd4, List.getD_eq_getElem?_getD, List.getD_eq_getElem?_getD, List.getElem?_drop]
    congr 2
    omega
  · -- what it holds
    have hset : ((frameBytes l).set i c).drop 8 = l.set (i - 8) c := by rw [List.drop_set, if_neg (by omega), hd8]
    have hg : get4 (((frameBytes l).set i c).drop 4) = fextend (fextend 0 (four l.length)) l := by
      rw [List.drop_set, if_neg (by omega), hd4, get4_set _ _ _ (by omega), get4_four _ hr.1 hr.2 l]
    rw [hset, hg, List.take_of_length_le (by rw [List.length_set]; omega)]
    refine fextend_set _ l (i - 8) c (by omega) hB hc0 hc ?_
    intro h
    apply hne
    rw [h]
    conv => lhs; rw [← hd8]
    rw [List.getD_eq_getElem?_getD, List.getD_eq_getElem?_getD, List.getElem?_drop]
    congr 2
    omega
theorem xor_ne (a : Int) (j : Nat) (ha : 0 ≤ a ∧ a ≤ 255) (hj : j < 8) : (0 ≤ Go.bits .xor .u8 a (shl .u8 1 (j : Int)) ∧ Go.bits .xor .u8 a (shl .u8 1 (j : Int)) ≤ 255) ∧ Go.bits .xor .u8 a (shl .u8 1 (j : Int)) ≠ a := by
  have hs : shl .u8 1 (j : Int) = ((2 ^ j : Nat) : Int) := by
    match j, hj with
    | 0, _ => rfl
    | 1, _ => rfl
    | 2, _ => rfl
    | 3, _ => rfl
    | 4, _ => rfl
    | 5, _ => rfl
    | 6, _ => rfl
    | 7, _ => rfl
  have hp : 2 ^ j < 256 := Nat.pow_lt_pow_right (a := 2) (m := j) (n := 8) (by omega) (by omega)
  have hp0 : 0 < 2 ^ j := Nat.pow_pos (by omega)
  rw [hs]
  refine ⟨xor8_range a _ ha (by omega), fun h => ?_⟩
  have h2 := congrArg (BitVec.ofInt 32) h
  rw [ofInt_xor8 a _ ha (by omega)] at h2
  have h3 : BitVec.ofInt 32 ((2 ^ j : Nat) : Int) = 0#32 := by
    have h4 : BitVec.ofInt 32 a ^^^ (BitVec.ofInt 32 a ^^^ BitVec.ofInt 32 ((2 ^ j : Nat) : Int)) = 0#32 := by rw [h2, BitVec.xor_self]
    rwa [← BitVec.xor_assoc, BitVec.xor_self, BitVec.zero_xor] at h4
  have h5 := congrArg u32i h3
  rw [u32i_ofInt _ (by omega) (by omega)] at h5
  have : u32i 0#32 = 0 := rfl
  omega
theorem FrameTurned : tollgatelaw01_FrameTurned.Pure := by
  intro l a hm hl hB ha
  have hb := B8_of hB
  refine Ev.rounds (r := true) ?_
  unfold tollgatelaw01_FrameTurned.f
  refine Ev.call (Frame_f hb) ?_
  by_cases hL : (l.length : Int) > 65536
  · rw [if_pos hL]
    refine Ev.neg (by simp) ?_
    refine Ev.step (f := fun k => (tollgatelaw01_live.f).bind fun t => if t = true then (some ((6 : Int) == 6)) else (some false)) (fun k => by simp only [tollgatelaw01_FrameTurned.j0, if_true]) ?_
    exact Ev.call rfl (Ev.pos rfl (Ev.ret rfl))
  · rw [if_neg hL]
    have hFl := frameBytes_length l
    have hFB := frameBytes_B8 l hb
    refine Ev.pos rfl ?_
    have hw8 : wrap64 (8 + (l.length : Int)) = 8 + (l.length : Int) := by unfold wrap64; omega
    have hc0 : (((frameBytes l).length : Int) != wrap64 (8 + (l.length : Int))) = false := by
      rw [hw8, hFl]
      simp
    rw [hc0]
    have hwm : wrap64 (32 + wrap64 (8 * (l.length : Int))) = 32 + 8 * (l.length : Int) := by unfold wrap64; omega
    have hwu : IntKind.u64.wrap (32 + 8 * (l.length : Int)) = 32 + 8 * (l.length : Int) := by
      simp only [IntKind.wrap, IntKind.signed, IntKind.bits]; simp; omega
    have hu : 0 ≤ IntKind.u64.wrap a ∧ IntKind.u64.wrap a < 18446744073709551616 := by
      simp only [IntKind.wrap, IntKind.signed, IntKind.bits]; simp; omega
    refine Ev.step (fun k => by simp only [tollgatelaw01_FrameTurned.j0]; rw [if_neg (by simp), hwm, hwu]) ?_
    generalize IntKind.u64.wrap a = u at hu ⊢
    have hm1 : Int.tmod u (32 + 8 * (l.length : Int)) = u % (32 + 8 * (l.length : Int)) := Int.tmod_eq_emod_of_nonneg hu.1
    have hm2 : 0 ≤ u % (32 + 8 * (l.length : Int)) ∧ u % (32 + 8 * (l.length : Int)) < 32 + 8 * (l.length : Int) := ⟨Int.emod_nonneg _ (by omega), Int.emod_lt_of_pos _ (by omega)⟩
    generalize hn : u % (32 + 8 * (l.length : Int)) = n at hm1 hm2
    have hw1 : wrap64 n = n := by unfold wrap64; omega
    have hd : Int.tdiv n 8 = n / 8 := Int.tdiv_eq_ediv_of_nonneg hm2.1
    have hmod : Int.tmod n 8 = n % 8 := Int.tmod_eq_emod_of_nonneg hm2.1
    have hw2 : wrap64 (n / 8) = n / 8 := by unfold wrap64; omega
    have hw3 : wrap64 (4 + n / 8) = 4 + n / 8 := by unfold wrap64; omega
    rw [hm1, hw1, hd, hmod, hw2, hw3]
    refine Ev.neg (by omega) (Ev.pos (by omega) (Ev.pos (by omega) (Ev.pos (by omega) ?_)))
    have hrd : rd (frameBytes l) (4 + n / 8) = (frameBytes l).getD (4 + n / 8).toNat 0 := rfl
    have hx := xor_ne (rd (frameBytes l) (4 + n / 8)) (n % 8).toNat (rd_B8 hFB _) (by omega)
    rw [Int.toNat_of_nonneg (by omega)] at hx
    obtain ⟨⟨hx0, hx1⟩, hx2⟩ := hx
    have hne : nextOf ((frameBytes l).set (4 + n / 8).toNat (Go.bits .xor .u8 (rd (frameBytes l) (4 + n / 8)) (shl .u8 1 (n % 8)))) 0 = ([], 0, 5) :=
      nextOf_turned l hb (by omega) _ _ (by omega) (by omega) hx0 hx1 hx2
    have hBs : B8 ((frameBytes l).set (4 + n / 8).toNat (Go.bits .xor .u8 (rd (frameBytes l) (4 + n / 8)) (shl .u8 1 (n % 8)))) := by
      intro x hx
      rcases List.mem_or_eq_of_mem_set hx with h | rfl
      · exact hFB x h
      · exact ⟨hx0, hx1⟩
    refine Ev.call (Next_f hBs 0) ?_
    rw [hne]
    exact Ev.call rfl (Ev.pos rfl (Ev.pos rfl (Ev.ret rfl)))
end Go.Proofs.Ytpjcamdligelmaa.Pure
