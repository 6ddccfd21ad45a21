/- Plain facts on the sum of bytes: two rows, the xor of three, a turned byte; on four bytes and a number; and that the reference's Frame and Next compute frameBytes and nextOf. -/
import Derived.Test.YtpjcamdligelmaaFPa
import Derived.Test.YtpjcamdligelmaaQx12
import Derived.Test.YtpjcamdligelmaaQx14
import Derived.Test.YtpjcamdligelmaaQx15
import Derived.Test.YtpjcamdligelmaaQx6
namespace Go.Proofs.Ytpjcamdligelmaa.FP
open Go.RowKit Go.Proofs.Ytpjcamdligelmaa.Q Go.Proofs.YtpjcamdligelmaaW.PrintWords Go.Proofs.YtpjcamdligelmaaW.PrintLast Go.Proofs.YtpjcamdligelmaaW.PrintMore

theorem Ev.const {α : Type} {x : Option α} {r : α} (h : Ev (fun _ => x) r) : x = some r := by
  obtain ⟨K, hK⟩ := h
  exact hK K (Nat.le_refl _)
theorem Ev.ret {α : Type} {a r : α} (h : a = r) : Ev (fun _ => some a) r := by rw [h]; exact Ev.now _
theorem Frame_f {l : List Int} (h : B8 l) : frame_Frame.f l = some (if (l.length : Int) > 65536 then ([], 6) else (frameBytes l, 0)) := by
  unfold frame_Frame.f
  rw [if_pos ((okB_iff l).2 h)]
  split <;> rfl
theorem Next_f {l : List Int} (h : B8 l) (a : Int) : frame_Next.f l a = some (nextOf l a) := by
  unfold frame_Next.f
  rw [if_pos ((okB_iff l).2 h)]
/-! two rows -/
theorem fex_append (r : BitVec 32) (a b : List Int) : fex r (a ++ b) = fex (fex r a) b := by unfold fex; rw [List.foldl_append]
theorem fextend_append (s : Int) (a b : List Int) : fextend s (a ++ b) = fextend (fextend s a) b := by
  unfold fextend
  rw [fex_append, ofInt_u32i, BitVec.not_not]
/-! the xor -/
theorem fst1_xor (a b : BitVec 32) : fst1 (a ^^^ b) = fst1 a ^^^ fst1 b := by
  unfold fst1
  rw [BitVec.ushiftRight_xor_distrib, BitVec.getLsbD_xor]
  generalize a >>> 1 = x
  generalize b >>> 1 = y
  generalize (0xEDB88320#32) = p
  have h1 : x ^^^ y ^^^ p = x ^^^ (y ^^^ p) := BitVec.xor_assoc x y p
  cases a.getLsbD 0 <;> cases b.getLsbD 0 <;> simp
  · exact h1
  · rw [h1, BitVec.xor_comm y p, ← BitVec.xor_assoc]
  · rw [BitVec.xor_comm y p, ← BitVec.xor_assoc, BitVec.xor_assoc x p p, BitVec.xor_self, BitVec.xor_zero]
theorem fst8_xor (a b : BitVec 32) : fst8 (a ^^^ b) = fst8 a ^^^ fst8 b := by unfold fst8; simp only [fst1_xor]
theorem fst1_zero {x : BitVec 32} (h : fst1 x = 0#32) : x = 0#32 := by
  unfold fst1 at h
  by_cases hb : x.getLsbD 0 = true
  · rw [if_pos hb] at h
    have h31 := congrArg (fun v : BitVec 32 => v.getLsbD 31) h
    simp only [BitVec.getLsbD_xor, BitVec.getLsbD_ushiftRight] at h31
    have h32 : x.getLsbD (1 + 31) = false := BitVec.getLsbD_of_ge x 32 (by omega)
    rw [h32, show (0xEDB88320#32).getLsbD 31 = true by decide, show (0#32).getLsbD 31 = false by decide] at h31
    exact absurd h31 (by decide)
  · rw [if_neg hb, BitVec.xor_zero] at h
    have h2 := congrArg BitVec.toNat h
    rw [BitVec.toNat_ushiftRight, Nat.shiftRight_eq_div_pow] at h2
    rw [BitVec.getLsbD, Nat.testBit_zero, decide_eq_true_eq] at hb
    apply BitVec.eq_of_toNat_eq
    simp at h2 ⊢
    omega
theorem fst1_inj {a b : BitVec 32} (h : fst1 a = fst1 b) : a = b := by
  have h2 : fst1 (a ^^^ b) = 0#32 := by rw [fst1_xor, h, BitVec.xor_self]
  have h3 := fst1_zero h2
  have h4 : a ^^^ b ^^^ b = b := by rw [h3, BitVec.zero_xor]
  rwa [BitVec.xor_assoc, BitVec.xor_self, BitVec.xor_zero] at h4
theorem fst8_inj {a b : BitVec 32} (h : fst8 a = fst8 b) : a = b := by
  unfold fst8 at h
  exact fst1_inj (fst1_inj (fst1_inj (fst1_inj (fst1_inj (fst1_inj (fst1_inj (fst1_inj h)))))))
theorem xor_right_inj {a b c : BitVec 32} (h : a ^^^ c = b ^^^ c) : a = b := by
  have h2 : a ^^^ c ^^^ c = b ^^^ c ^^^ c := by rw [h]
  rwa [BitVec.xor_assoc, BitVec.xor_self, BitVec.xor_zero, BitVec.xor_assoc, BitVec.xor_self, BitVec.xor_zero] at h2
theorem fbyte_inj {a b : BitVec 32} {c : Int} (h : fbyte a c = fbyte b c) : a = b := xor_right_inj (fst8_inj h)
theorem fex_inj {a b : BitVec 32} : ∀ {l : List Int}, fex a l = fex b l → a = b := by
  intro l
  induction l generalizing a b with
  | nil => intro h; exact h
  | cons x l ih => intro h; exact fbyte_inj (ih h)
/-- one byte of a row turned: another sum -/
theorem fex_set (r : BitVec 32) (l : List Int) (i : Nat) (c : Int) (hi : i < l.length) (hB : B8 l) (hc0 : 0 ≤ c) (hc : c ≤ 255) (hne : c ≠ l.getD i 0) : fex r (l.set i c) ≠ fex r l := by
  induction l generalizing r i with
  | nil => simp at hi
  | cons x l ih =>
    cases i with
    | zero =>
      intro h
      simp only [List.set_cons_zero] at h
      have h2 : fbyte r c = fbyte r x := fex_inj (l := l) h
      have h3 : r ^^^ BitVec.ofInt 32 c = r ^^^ BitVec.ofInt 32 x := fst8_inj h2
      rw [BitVec.xor_comm r, BitVec.xor_comm r] at h3
      have h4 := congrArg u32i (xor_right_inj h3)
      have hx := hB x (by simp)
      rw [u32i_ofInt c hc0 (by omega), u32i_ofInt x hx.1 (by omega)] at h4
      exact hne (by simpa using h4)
    | succ i =>
      simp only [List.set_cons_succ]
      exact ih (fbyte r x) i (by simpa using hi) (fun y hy => hB y (by simp [hy])) (by simpa using hne)
theorem fextend_set (s : Int) (l : List Int) (i : Nat) (c : Int) (hi : i < l.length) (hB : B8 l) (hc0 : 0 ≤ c) (hc : c ≤ 255) (hne : c ≠ l.getD i 0) : fextend s (l.set i c) ≠ fextend s l := by
  intro h
  have h2 := u32i_inj h
  exact fex_set _ l i c hi hB hc0 hc hne (BitVec.not_inj.1 h2)
theorem ofInt_xor8 (a b : Int) (ha : 0 ≤ a ∧ a ≤ 255) (hb : 0 ≤ b ∧ b ≤ 255) : BitVec.ofInt 32 (Go.bits .xor .u8 a b) = BitVec.ofInt 32 a ^^^ BitVec.ofInt 32 b := by
  obtain ⟨A, rfl⟩ := Int.eq_ofNat_of_zero_le ha.1
  obtain ⟨B, rfl⟩ := Int.eq_ofNat_of_zero_le hb.1
  rw [u8_xor_nat A B (by omega) (by omega)]
  simp only [BitVec.ofInt_natCast]
  exact BitVec.ofNat_xor.symm ▸ rfl
theorem xor8_range (a b : Int) (ha : 0 ≤ a ∧ a ≤ 255) (hb : 0 ≤ b ∧ b ≤ 255) : 0 ≤ Go.bits .xor .u8 a b ∧ Go.bits .xor .u8 a b ≤ 255 := by
  obtain ⟨A, rfl⟩ := Int.eq_ofNat_of_zero_le ha.1
  obtain ⟨B, rfl⟩ := Int.eq_ofNat_of_zero_le hb.1
  rw [u8_xor_nat A B (by omega) (by omega)]
  have : A ^^^ B < 2 ^ 8 := Nat.xor_lt_two_pow (by omega) (by omega)
  omega
/-! numbers -/
theorem four_is (n : Int) (h0 : 0 ≤ n) (_h1 : n < 4294967296) : tollgateref01_four.f n = some (four n) := by
  unfold tollgateref01_four.f four
  rw [Int.tdiv_eq_ediv_of_nonneg h0, Int.tdiv_eq_ediv_of_nonneg h0, Int.tdiv_eq_ediv_of_nonneg h0, Int.tmod_eq_emod_of_nonneg h0]
  congr 2
  · omega
  · congr 1
    · omega
    · congr 1
      · omega
      · congr 1
        omega
theorem get4_four (n : Int) (h0 : 0 ≤ n) (h1 : n < 4294967296) (r : List Int) : get4 (four n ++ r) = n := by
  simp only [get4, four, List.cons_append, List.nil_append, List.getD_cons_zero, List.getD_cons_succ]
  omega
theorem four_length (n : Int) : (four n).length = 4 := rfl
theorem frameBytes_length (l : List Int) : (frameBytes l).length = 8 + l.length := by simp [frameBytes, four_length]; omega
theorem frameBytes_B8 (l : List Int) (h : B8 l) : B8 (frameBytes l) := B8_append (B8_four _ (by omega)) (B8_append (B8_four _ (fextend_range _ _).1) h)
theorem rFrame_is (l : List Int) (hl : l.length ≤ 140737488351232) (hB : B8 l) : Ev (fun k => tollgateref01_Frame.f k l) (if (l.length : Int) > 65536 then ([], 6) else (frameBytes l, 0)) := by
  unfold tollgateref01_Frame.f
  by_cases h : (l.length : Int) > 65536
  · rw [if_pos h]
    exact Ev.pos h (Ev.now _)
  · rw [if_neg h]
    refine Ev.neg h ?_
    rw [Int.emod_eq_of_lt (by omega) (by omega)]
    refine Ev.call (four_is _ (by omega) (by omega)) ?_
    refine Ev.put ?_
    refine Ev.pos (by rw [List.length_nil, four_length]; omega) ?_
    refine Ev.put ?_
    have hf := B8_four (l.length : Int) (by omega)
    have hr := fextend_range 0 (four (l.length : Int))
    refine Ev.bind (rSum_is _ (by rw [four_length]; omega) hf) (Ev.bind (rExtend_is _ l hr.1 hr.2 (by omega) hB) ?_)
    have hr2 := fextend_range (fextend 0 (four (l.length : Int))) l
    refine Ev.call (four_is _ hr2.1 hr2.2) ?_
    refine Ev.pos (by rw [List.nil_append, four_length, four_length]; omega) ?_
    refine Ev.put ?_
    refine Ev.pos (by rw [List.nil_append, List.length_append, four_length, four_length]; omega) ?_
    unfold frameBytes
    rw [List.nil_append, List.append_assoc]
    exact Ev.now _
theorem number_step (l : List Int) (a n : Int) (j : Nat) (hj : j < 4) (ha : 0 ≤ a) (hal : a + 4 ≤ l.length) (hl : l.length ≤ 140737488351232) (hB : B8 l) (hn0 : 0 ≤ n) (hn : n < 16777216) (r : Int)
    (h : Ev (fun k => tollgateref01_number.l0 k l a (n * 256 + (l.drop a.toNat).getD j 0) ((j + 1 : Nat) : Int)) r) : Ev (fun k => tollgateref01_number.l0 k l a n (j : Int)) r := by
  refine Ev.step (fun k => ?_) h
  have hw : wrap64 (a + (j : Int)) = a + j := by unfold wrap64; omega
  have hrd : rd l (a + (j : Int)) = (l.drop a.toNat).getD j 0 := by
    unfold rd
    rw [List.getD_eq_getElem?_getD, List.getD_eq_getElem?_getD, List.getElem?_drop]
    congr 2
    omega
  have hb := getD_B8 (B8_drop hB a.toNat) j
  simp only [tollgateref01_number.l0]
  rw [if_pos (by omega), hw, if_pos (by omega), if_pos (by omega), hrd]
  congr 1
  · unfold wrap64; omega
  · unfold wrap64; omega
theorem number_is (l : List Int) (a : Int) (ha : 0 ≤ a) (hal : a + 4 ≤ l.length) (hl : l.length ≤ 140737488351232) (hB : B8 l) : Ev (fun k => tollgateref01_number.f k l a) (get4 (l.drop a.toNat)) := by
  have hd := B8_drop hB a.toNat
  have h0 := getD_B8 hd 0
  have h1 := getD_B8 hd 1
  have h2 := getD_B8 hd 2
  unfold tollgateref01_number.f
  refine number_step l a 0 0 (by omega) ha hal hl hB (by omega) (by omega) _ ?_
  refine number_step l a _ 1 (by omega) ha hal hl hB (by omega) (by omega) _ ?_
  refine number_step l a _ 2 (by omega) ha hal hl hB (by omega) (by omega) _ ?_
  refine number_step l a _ 3 (by omega) ha hal hl hB (by omega) (by omega) _ ?_
  refine Ev.step (f := fun _ => some (get4 (l.drop a.toNat))) (fun k => ?_) (Ev.now _)
  simp only [tollgateref01_number.l0]
  rw [if_neg (by omega)]
  simp [get4]
theorem rNext_is (l : List Int) (a : Int) (ha64 : -9223372036854775808 ≤ a ∧ a ≤ 9223372036854775807) (hl : l.length ≤ 140737488351232) (hB : B8 l) : Ev (fun k => tollgateref01_Next.f k l a) (nextOf l a) := by
  unfold tollgateref01_Next.f nextOf
  have hj : ∀ b : Bool, ∀ r, (b = true → r = (([], 0, 2) : List Int × Int × Int)) → b = true → Ev (fun k => tollgateref01_Next.j0 k l a b) r := by
    intro b r hr hb
    rw [hr hb]
    exact Ev.step (f := fun _ => some (([], 0, 2) : List Int × Int × Int)) (fun k => by simp only [tollgateref01_Next.j0]; rw [if_pos hb]) (Ev.now _)
  by_cases h1 : a < 0
  · rw [if_pos (Or.inl h1)]
    simp only [if_pos h1]
    exact hj true _ (fun _ => rfl) rfl
  simp only [if_neg h1]
  by_cases h2 : a > (l.length : Int)
  · rw [if_pos (Or.inr h2)]
    exact hj _ _ (fun _ => rfl) (decide_eq_true h2)
  rw [if_neg (by omega)]
  have hw1 : wrap64 ((l.length : Int) - a) = (l.length : Int) - a := by unfold wrap64; omega
  have hdl : (l.drop a.toNat).length = l.length - a.toNat := List.length_drop
  have hb0 : decide (a > (l.length : Int)) = false := decide_eq_false h2
  by_cases h3 : (l.drop a.toNat).length < 8
  · rw [if_pos h3]
    refine Ev.step (f := fun _ => some (([], 0, 3) : List Int × Int × Int)) (fun k => ?_) (Ev.now _)
    simp only [tollgateref01_Next.j0]
    rw [hb0, if_neg (by simp), hw1, if_pos (by omega)]
  rw [if_neg h3]
  refine Ev.step (fun k => by simp only [tollgateref01_Next.j0]; rw [hb0, if_neg (by simp), hw1, if_neg (by omega)]) ?_
  have hn := number_is l a (by omega) (by omega) hl hB
  refine Ev.bind hn ?_
  have hr := get4_range (B8_drop hB a.toNat)
  by_cases h4 : get4 (l.drop a.toNat) > 65536
  · rw [if_pos h4]
    exact Ev.pos h4 (Ev.now _)
  rw [if_neg h4]
  refine Ev.neg h4 ?_
  have hw2 : wrap64 ((l.length : Int) - a - 8) = (l.length : Int) - a - 8 := by unfold wrap64; omega
  rw [hw2]
  by_cases h5 : ((l.drop a.toNat).length : Int) - 8 < get4 (l.drop a.toNat)
  · rw [if_pos h5]
    exact Ev.pos (by omega) (Ev.now _)
  rw [if_neg h5]
  refine Ev.neg (by omega) ?_
  have hw3 : wrap64 (a + 8) = a + 8 := by unfold wrap64; omega
  have hw4 : wrap64 (a + 8 + get4 (l.drop a.toNat)) = a + 8 + get4 (l.drop a.toNat) := by unfold wrap64; omega
  have hw5 : wrap64 (a + 4) = a + 4 := by unfold wrap64; omega
  have hin : (l.take (a + 8 + get4 (l.drop a.toNat)).toNat).drop (a + 8).toNat = ((l.drop a.toNat).drop 8).take (get4 (l.drop a.toNat)).toNat := by
    rw [List.drop_take, List.drop_drop]
    congr 1
    · omega
    · congr 1
      omega
  have h44 : (l.take (a + 4).toNat).drop a.toNat = (l.drop a.toNat).take 4 := by
    rw [List.drop_take]
    congr 1
    omega
  have hB1 := B8_take (B8_drop (B8_drop hB a.toNat) 8) (get4 (l.drop a.toNat)).toNat
  have hl1 : (((l.drop a.toNat).drop 8).take (get4 (l.drop a.toNat)).toNat).length ≤ 65536 := by rw [List.length_take]; omega
  rw [hw3, hw4, hw5, hin, h44]
  refine Ev.put (Ev.pos (by omega) (Ev.pos (by omega) (Ev.pos (by omega) (Ev.pos (by rw [List.length_nil]; omega) (Ev.put (Ev.pos (by omega) (Ev.pos (by omega) (Ev.pos (by omega) ?_))))))))
  have hr1 := fextend_range 0 ((l.drop a.toNat).take 4)
  refine Ev.bind (rSum_is _ (by rw [List.length_take]; omega) (B8_take (B8_drop hB a.toNat) 4)) (Ev.bind (rExtend_is _ _ hr1.1 hr1.2 (by rw [List.nil_append]; omega) (by rw [List.nil_append]; exact hB1)) ?_)
  have hn4 := number_is l (a + 4) (by omega) (by omega) hl hB
  rw [show (a + 4).toNat = a.toNat + 4 by omega, ← List.drop_drop] at hn4
  refine Ev.bind hn4 ?_
  have hr2 := fextend_range (fextend 0 ((l.drop a.toNat).take 4)) (((l.drop a.toNat).drop 8).take (get4 (l.drop a.toNat)).toNat)
  have hw6 : wrap64 (fextend (fextend 0 ((l.drop a.toNat).take 4)) (((l.drop a.toNat).drop 8).take (get4 (l.drop a.toNat)).toNat)) = fextend (fextend 0 ((l.drop a.toNat).take 4)) (((l.drop a.toNat).drop 8).take (get4 (l.drop a.toNat)).toNat) := by unfold wrap64; omega
  rw [List.nil_append, hw6]
  by_cases h6 : fextend (fextend 0 ((l.drop a.toNat).take 4)) (((l.drop a.toNat).drop 8).take (get4 (l.drop a.toNat)).toNat) = get4 ((l.drop a.toNat).drop 4)
  · simp only [ne_eq, h6, not_true_eq_false, if_false, if_true]
    exact Ev.now _
  · simp only [ne_eq, h6, not_false_eq_true, if_false, if_true]
    exact Ev.now _
end Go.Proofs.Ytpjcamdligelmaa.FP
