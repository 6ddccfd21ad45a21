/- FrameXors: the program's sum of the xor of three rows of one length is the xor of their sums, for every three rows (the longer ones are cut). No condition. -/
import Derived.Test.YtpjcamdligelmaaQx11
import Derived.Test.YtpjcamdligelmaaFPb
namespace Go.Proofs.Ytpjcamdligelmaa.Pure
open Go.RowKit Go.Proofs.Ytpjcamdligelmaa.Q Go.Proofs.Ytpjcamdligelmaa.FP Go.Proofs.YtpjcamdligelmaaW.PrintWords Go.Proofs.YtpjcamdligelmaaW.PrintLast Go.Proofs.YtpjcamdligelmaaW.PrintMore
/-- the first n bytes' xor -/
def xor3 (a b c : List Int) (n : Nat) : List Int := (List.range n).map fun i : Nat => Go.bits .xor .u8 (Go.bits .xor .u8 (rd a (i : Int)) (rd b (i : Int))) (rd c (i : Int))
theorem xor3_length (a b c : List Int) (n : Nat) : (xor3 a b c n).length = n := by simp [xor3]
theorem xor3_succ (a b c : List Int) (n : Nat) : xor3 a b c (n + 1) = xor3 a b c n ++ [Go.bits .xor .u8 (Go.bits .xor .u8 (rd a n) (rd b n)) (rd c n)] := by simp [xor3, List.range_succ]
theorem xor3_range {a b c : List Int} (ha : B8 a) (hb : B8 b) (hc : B8 c) (i : Int) : 0 ≤ Go.bits .xor .u8 (Go.bits .xor .u8 (rd a i) (rd b i)) (rd c i) ∧ Go.bits .xor .u8 (Go.bits .xor .u8 (rd a i) (rd b i)) (rd c i) ≤ 255 :=
  xor8_range _ _ (xor8_range _ _ (rd_B8 ha i) (rd_B8 hb i)) (rd_B8 hc i)
theorem xor3_B8 {a b c : List Int} (ha : B8 a) (hb : B8 b) (hc : B8 c) (n : Nat) : B8 (xor3 a b c n) := by
  intro x hx
  obtain ⟨i, _, rfl⟩ := List.mem_map.1 hx
  exact xor3_range ha hb hc _
theorem take_rd {l : List Int} {n : Nat} (h : n < l.length) : l.take (n + 1) = l.take n ++ [rd l n] := by
  rw [List.take_succ_eq_append_getElem h]
  simp [rd, List.getD_eq_getElem?_getD, List.getElem?_eq_getElem h]
theorem fex_snoc (r : BitVec 32) (l : List Int) (c : Int) : fex r (l ++ [c]) = fbyte (fex r l) c := by rw [fex_append]; rfl
theorem fex_xor3 {a b c : List Int} (ha : B8 a) (hb : B8 b) (hc : B8 c) (p q s : BitVec 32) : ∀ n, n ≤ a.length → n ≤ b.length → n ≤ c.length → fex (p ^^^ q ^^^ s) (xor3 a b c n) = fex p (a.take n) ^^^ fex q (b.take n) ^^^ fex s (c.take n) := by
  intro n
  induction n with
  | zero => intro _ _ _; simp [xor3, fex]
  | succ n ih =>
    intro h1 h2 h3
    have i := ih (by omega) (by omega) (by omega)
    rw [xor3_succ, fex_snoc, i, take_rd (by omega), take_rd (by omega), take_rd (by omega), fex_snoc, fex_snoc, fex_snoc]
    unfold fbyte
    rw [ofInt_xor8 _ _ (xor8_range _ _ (rd_B8 ha _) (rd_B8 hb _)) (rd_B8 hc _), ofInt_xor8 _ _ (rd_B8 ha _) (rd_B8 hb _), ← fst8_xor, ← fst8_xor]
    congr 1
    generalize fex p (a.take n) = x
    generalize fex q (b.take n) = y
    generalize fex s (c.take n) = z
    generalize BitVec.ofInt 32 (rd a n) = u
    generalize BitVec.ofInt 32 (rd b n) = v
    generalize BitVec.ofInt 32 (rd c n) = w
    apply BitVec.eq_of_getLsbD_eq
    intro j hj
    simp only [BitVec.getLsbD_xor]
    cases x.getLsbD j <;> cases y.getLsbD j <;> cases z.getLsbD j <;> cases u.getLsbD j <;> cases v.getLsbD j <;> cases w.getLsbD j <;> rfl
theorem fextend_xor3 {a b c : List Int} (ha : B8 a) (hb : B8 b) (hc : B8 c) (n : Nat) (h1 : n ≤ a.length) (h2 : n ≤ b.length) (h3 : n ≤ c.length) :
    fextend 0 (xor3 a b c n) = Go.bits .xor .u32 (Go.bits .xor .u32 (fextend 0 (a.take n)) (fextend 0 (b.take n))) (fextend 0 (c.take n)) := by
  unfold fextend
  rw [u32i_xor, u32i_xor]
  congr 1
  have e : (~~~ BitVec.ofInt 32 0) = (~~~ BitVec.ofInt 32 0) ^^^ (~~~ BitVec.ofInt 32 0) ^^^ (~~~ BitVec.ofInt 32 0) := by decide
  conv => lhs; rw [e]
  rw [fex_xor3 ha hb hc _ _ _ n h1 h2 h3]
  generalize fex _ (a.take n) = x
  generalize fex _ (b.take n) = y
  generalize fex _ (c.take n) = z
  apply BitVec.eq_of_getLsbD_eq
  intro j hj
  simp only [BitVec.getLsbD_xor, BitVec.getLsbD_not, hj, decide_true, Bool.true_and]
  cases x.getLsbD j <;> cases y.getLsbD j <;> cases z.getLsbD j <;> rfl
theorem loop {a b c : List Int} (ha : B8 a) (hb : B8 b) (hc : B8 c) (n : Nat) (h1 : n ≤ a.length) (h2 : n ≤ b.length) (h3 : n ≤ c.length) (hn : n ≤ 140737488351232) : ∀ (d i : Nat), i + d = n →
    Ev (fun k => tollgatelaw01_FrameXors.l0 k a b c (n : Int) (xor3 a b c i ++ List.replicate (n - i) 0) (i : Int)) true := by
  intro d
  induction d with
  | zero =>
    intro i hi
    obtain rfl : i = n := by omega
    refine Ev.step (fun k => by simp only [tollgatelaw01_FrameXors.l0]; rfl) (Ev.neg (by omega) (Ev.call rfl (Ev.pos rfl ?_)))
    rw [Nat.sub_self, List.replicate_zero, List.append_nil, Int.toNat_natCast]
    refine Ev.bind (Sum_is _ (by rw [xor3_length]; omega) (xor3_B8 ha hb hc _)) (Ev.pos (by omega) (Ev.pos (by omega) ?_))
    refine Ev.bind (Sum_is _ (by rw [List.length_take]; omega) (B8_take ha _)) (Ev.pos (by omega) ?_)
    refine Ev.bind (Sum_is _ (by rw [List.length_take]; omega) (B8_take hb _)) (Ev.pos (by omega) ?_)
    refine Ev.bind (Sum_is _ (by rw [List.length_take]; omega) (B8_take hc _)) (Ev.ret ?_)
    rw [fextend_xor3 ha hb hc i h1 h2 h3]
    simp
  | succ d ih =>
    intro i hi
    have h := ih (i + 1) (by omega)
    have hset : (xor3 a b c i ++ List.replicate (n - i) 0).set ((i : Int)).toNat (Go.bits .xor .u8 (Go.bits .xor .u8 (rd a (i : Int)) (rd b (i : Int))) (rd c (i : Int))) = xor3 a b c (i + 1) ++ List.replicate (n - (i + 1)) 0 := by
      rw [Int.toNat_natCast, List.set_append_right _ _ (by rw [xor3_length]; omega), xor3_length, Nat.sub_self, show n - i = (n - (i + 1)) + 1 by omega, List.replicate_succ, List.set_cons_zero, xor3_succ, List.append_assoc]
      rfl
    have hw : wrap64 ((i : Int) + 1) = ((i + 1 : Nat) : Int) := by unfold wrap64; omega
    refine Ev.step (fun k => by simp only [tollgatelaw01_FrameXors.l0]; rfl) (Ev.pos (by omega) (Ev.pos (by omega) (Ev.pos (by omega) (Ev.pos (by omega) (Ev.pos (by omega) (Ev.pos (by rw [List.length_append, xor3_length, List.length_replicate]; omega) ?_))))))
    rw [hset, hw]
    exact h
theorem FrameXors : tollgatelaw01_FrameXors.Pure := by
  intro a b c _ hl0 hA _ hl1 hB _ hl2 hC
  have ha := B8_of hA
  have hb := B8_of hB
  have hc := B8_of hC
  refine Ev.rounds (r := true) ?_
  unfold tollgatelaw01_FrameXors.f
  have hm : mn (mn (a.length : Int) (b.length : Int)) (c.length : Int) = ((min (min a.length b.length) c.length : Nat) : Int) := by
    unfold mn
    repeat' split
    all_goals omega
  rw [hm]
  have h := loop ha hb hc (min (min a.length b.length) c.length) (by omega) (by omega) (by omega) (by omega) _ 0 (Nat.zero_add _)
  refine Ev.pos (by omega) (Ev.pos (by rw [Int.toNat_natCast]; omega) ?_)
  rw [Int.toNat_natCast]
  exact h
end Go.Proofs.Ytpjcamdligelmaa.Pure
