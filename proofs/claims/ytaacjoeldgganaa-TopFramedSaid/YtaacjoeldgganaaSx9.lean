-- Laid by lay.py, a program of this session's, out of the translation (the kit's printer with additions of ours). Lean checks it.
import Derived.Test.YtaacjoeldgganaaSx0
import Derived.Test.YtaacjoeldgganaaSx6
import Derived.Test.YtaacjoeldgganaaSx7
import Derived.Test.YtaacjoeldgganaaSx13
namespace Go.Proofs.Ytaacjoeldgganaa.S
open Go.RowKit Go.Proofs.YtaacjoeldgganaaW.PrintWords Go.Proofs.YtaacjoeldgganaaW.PrintLast Go.Proofs.YtaacjoeldgganaaW.PrintMore
attribute [local go_sem] max2_int min2_int max_two min_two max_three min_three max_four min_four   -- for this text's walks alone
set_option linter.unusedVariables false
set_option linter.unusedSimpArgs false

/-! ### frame_Frame: function 5 -/
/-! the sum, by bits -/
def fst1 (r : BitVec 32) : BitVec 32 := (r >>> 1) ^^^ (if r.getLsbD 0 then 0xEDB88320#32 else 0#32)
def fst8 (r : BitVec 32) : BitVec 32 := fst1 (fst1 (fst1 (fst1 (fst1 (fst1 (fst1 (fst1 r)))))))
def fbyte (r : BitVec 32) (c : Int) : BitVec 32 := fst8 (r ^^^ BitVec.ofInt 32 c)
def fex (r : BitVec 32) (l : List Int) : BitVec 32 := l.foldl fbyte r
def u32i (b : BitVec 32) : Int := (b.toNat : Int)
def fextend (s : Int) (l : List Int) : Int := u32i (~~~ fex (~~~ BitVec.ofInt 32 s) l)
def B8 (l : List Int) : Prop := ∀ x ∈ l, 0 ≤ x ∧ x ≤ 255
theorem u32i_range (b : BitVec 32) : 0 ≤ u32i b ∧ u32i b < 4294967296 := by
  unfold u32i; have := b.isLt; omega
theorem u32i_inj {a b : BitVec 32} (h : u32i a = u32i b) : a = b := by
  unfold u32i at h; exact BitVec.eq_of_toNat_eq (by omega)
theorem ofInt_u32i (b : BitVec 32) : BitVec.ofInt 32 (u32i b) = b := by
  unfold u32i; apply BitVec.eq_of_toNat_eq; simp
theorem u32i_ofInt (x : Int) (h0 : 0 ≤ x) (h1 : x < 4294967296) : u32i (BitVec.ofInt 32 x) = x := by
  unfold u32i
  rw [BitVec.toNat_ofInt]
  omega
theorem u32i_xor (a b : BitVec 32) : Go.bits .xor .u32 (u32i a) (u32i b) = u32i (a ^^^ b) := by
  unfold u32i
  rw [u32_xor_nat _ _ (by have := a.isLt; omega) (by have := b.isLt; omega), BitVec.toNat_xor]
theorem u32i_not (a : BitVec 32) : Go.bits .xor .u32 4294967295 (u32i a) = u32i (~~~ a) := by
  have h := u32i_xor (BitVec.allOnes 32) a
  rw [show u32i (BitVec.allOnes 32) = 4294967295 from by decide] at h
  rw [h, BitVec.allOnes_xor]
theorem u32i_not2 (a : BitVec 32) : Go.bits .xor .u32 (u32i a) 4294967295 = u32i (~~~ a) := by
  have h := u32i_xor a (BitVec.allOnes 32)
  rw [show u32i (BitVec.allOnes 32) = 4294967295 from by decide] at h
  rw [h, BitVec.xor_allOnes]
theorem u32i_and1 (a : BitVec 32) : Go.bits .and .u32 (u32i a) 1 = (if a.getLsbD 0 then 1 else 0) := by
  have h := u32_and_nat a.toNat 1 (by have := a.isLt; omega) (by omega)
  unfold u32i
  rw [show ((1 : Nat) : Int) = 1 from rfl] at h
  rw [h, Nat.and_one_is_mod, BitVec.getLsbD, Nat.testBit_zero]
  by_cases hp : a.toNat % 2 = 1 <;> simp [hp]; omega
theorem u32i_half (a : BitVec 32) : u32i a / (2 : Int) = u32i (a >>> 1) := by
  unfold u32i
  rw [BitVec.toNat_ushiftRight, Nat.shiftRight_eq_div_pow]
  omega
theorem u32i_poly (a : BitVec 32) : Go.bits .xor .u32 (u32i a) 3988292384 = u32i (a ^^^ 0xEDB88320#32) := by
  rw [← u32i_xor, show u32i 0xEDB88320#32 = 3988292384 from by decide]
theorem wrap_one {i n : Int} (h0 : 0 ≤ i) (h : i < n) (hn : n ≤ 9223372036854775807) : wrap64 (i + 1) = i + 1 := by
  unfold wrap64; omega
theorem rd_B8 {l : List Int} (h : B8 l) (i : Int) : 0 ≤ rd l i ∧ rd l i ≤ 255 := by
  unfold rd
  rw [List.getD_eq_getElem?_getD]
  cases he : l[i.toNat]? with
  | none => simp
  | some x => simpa using h x (List.mem_of_getElem? he)
theorem Ext_in (r : BitVec 32) (l : List Int) (n i : Int) (res : Int) : ∀ (d : Nat) (j : Int), j = 8 - (d : Int) → 0 ≤ j → ∀ q, Ev (fun k => frame_Extend.l0 k (u32i q) l n (wrap64 (i + 1))) res →
    (q = (Nat.rec (motive := fun _ => BitVec 32 → BitVec 32) (fun b => b) (fun _ f b => f (fst1 b)) d : BitVec 32 → BitVec 32) r) → Ev (fun k => frame_Extend.l1 k (u32i r) l n i j) res := by
  intro d
  induction d generalizing r with
  | zero =>
    intro j hj h0 q h hq
    subst hq
    exact Ev.step (fun k => by simp only [frame_Extend.l1]; rw [if_neg (by omega)]) h
  | succ d ih =>
    intro j hj h0 q h hq
    refine Ev.step (f := fun k => frame_Extend.l1 k (u32i (fst1 r)) l n i (j + 1)) (fun k => ?_) (ih (fst1 r) (j + 1) (by omega) (by omega) q h hq)
    simp only [frame_Extend.l1]
    rw [if_pos (by omega), u32i_and1, wrap_one h0 (n := 8) (by omega) (by omega), u32i_half]
    unfold fst1
    by_cases hb : r.getLsbD 0 = true
    · rw [if_pos hb, if_pos rfl, u32i_poly, if_pos hb]
    · rw [if_neg hb, if_neg (by omega), if_neg hb, BitVec.xor_zero]
theorem Ext_out (l : List Int) (hl : l.length ≤ 140737488355328) (hB : B8 l) : ∀ (d : Nat) (i : Nat), i + d = l.length → ∀ r : BitVec 32, Ev (fun k => frame_Extend.l0 k (u32i r) l (l.length : Int) (i : Int)) (u32i (~~~ fex r (l.drop i))) := by
  intro d
  induction d with
  | zero =>
    intro i hi r
    refine Ev.step (f := fun _ => some (u32i (~~~ fex r (l.drop i)))) (fun k => ?_) (Ev.now _)
    simp only [frame_Extend.l0]
    rw [if_neg (by omega), u32i_not, List.drop_eq_nil_of_le (by omega)]
    rfl
  | succ d ih =>
    intro i hi r
    have hlt : i < l.length := by omega
    have hr := rd_B8 hB (i : Int)
    have hd : l.drop i = rd l (i : Int) :: l.drop (i + 1) := by
      rw [List.drop_eq_getElem_cons hlt]
      simp [rd, List.getD_eq_getElem?_getD, List.getElem?_eq_getElem hlt]
    have h := ih (i + 1) (by omega) (fbyte r (rd l (i : Int)))
    rw [show ((i + 1 : Nat) : Int) = wrap64 ((i : Int) + 1) from by rw [wrap_one (n := l.length) (by omega) (by omega) (by omega)]; omega] at h
    have h2 := Ext_in (r ^^^ BitVec.ofInt 32 (rd l (i : Int))) l (l.length : Int) (i : Int) _ 8 0 (by omega) (by omega) _ h rfl
    refine Ev.step (f := fun k => frame_Extend.l1 k (u32i (r ^^^ BitVec.ofInt 32 (rd l (i : Int)))) l (l.length : Int) (i : Int) 0) (fun k => ?_) (by rw [hd]; exact h2)
    simp only [frame_Extend.l0]
    rw [if_pos (by omega), if_pos (by omega), if_pos (by omega), Int.emod_eq_of_lt (by omega) (by omega)]
    rw [← u32i_xor, u32i_ofInt _ (by omega) (by omega)]
theorem Extend_is (s : Int) (l : List Int) (hs0 : 0 ≤ s) (hs : s < 4294967296) (hl : l.length ≤ 140737488355328) (hB : B8 l) : Ev (fun k => frame_Extend.f k s l) (fextend s l) := by
  have h := Ext_out l hl hB l.length 0 (by omega) (~~~ BitVec.ofInt 32 s)
  refine Ev.congr (fun k => ?_) h
  simp only [frame_Extend.f]
  rw [← u32i_not, u32i_ofInt s hs0 hs]
  rfl
theorem Sum_is (l : List Int) (hl : l.length ≤ 140737488355328) (hB : B8 l) : Ev (fun k => frame_Sum.f k l) (fextend 0 l) := by
  refine Ev.congr (f := fun k => frame_Extend.f k 0 l) (fun k => ?_) (Extend_is 0 l (by omega) (by omega) hl hB)
  simp [frame_Sum.f]
/-- a number of 32 bits as four bytes -/
def four (n : Int) : List Int := [n / 16777216 % 256, n / 65536 % 256, n / 256 % 256, n % 256]
def frameBytes (l : List Int) : List Int := four l.length ++ (four (fextend (fextend 0 (four l.length)) l) ++ l)
def okB (l : List Int) : Bool := l.all fun x => decide (0 ≤ x) && decide (x ≤ 255)
theorem okB_iff (l : List Int) : okB l = true ↔ B8 l := by simp [okB, B8]
/-- the frame's bytes (of bytes) -/
def frame_Frame.f (l0 : List Int) : Option (List Int × Int) := if okB l0 = true then (if (l0.length : Int) > 65536 then some ([], 6) else some (frameBytes l0, 0)) else none
theorem B8_four (n : Int) (h0 : 0 ≤ n) : B8 (four n) := by
  intro x hx
  simp only [four, List.mem_cons, List.not_mem_nil, or_false] at hx
  rcases hx with rfl | rfl | rfl | rfl <;> omega
theorem fextend_range (s : Int) (l : List Int) : 0 ≤ fextend s l ∧ fextend s l < 4294967296 := u32i_range _
theorem B8_append {a b : List Int} (ha : B8 a) (hb : B8 b) : B8 (a ++ b) := fun x hx => by
  rcases List.mem_append.1 hx with h | h
  · exact ha x h
  · exact hb x h
theorem B8_drop {a : List Int} (ha : B8 a) (n : Nat) : B8 (a.drop n) := fun x hx => ha x (List.mem_of_mem_drop hx)
theorem B8_take {a : List Int} (ha : B8 a) (n : Nat) : B8 (a.take n) := fun x hx => ha x (List.mem_of_mem_take hx)
/-- four cells from o on, the first k of them laid -/
def put4 (l : List Int) (o : Nat) (n : Int) : Nat → List Int
  | 0 => l
  | 1 => l.set o (n / 16777216 % 256)
  | 2 => (l.set o (n / 16777216 % 256)).set (o + 1) (n / 65536 % 256)
  | 3 => ((l.set o (n / 16777216 % 256)).set (o + 1) (n / 65536 % 256)).set (o + 2) (n / 256 % 256)
  | _ => (((l.set o (n / 16777216 % 256)).set (o + 1) (n / 65536 % 256)).set (o + 2) (n / 256 % 256)).set (o + 3) (n % 256)
theorem put4_length (l : List Int) (o : Nat) (n : Int) : ∀ k, (put4 l o n k).length = l.length
  | 0 => rfl
  | 1 => by simp [put4]
  | 2 => by simp [put4]
  | 3 => by simp [put4]
  | _ + 4 => by simp [put4]
set_option maxHeartbeats 1000000 in
theorem put_at (g cap o N m c : Nat) (l0 : List Int) (n : Int) (w0 w : World) (ok : Nat → Prop) (hm4 : 4 ≤ m) (hmc : m ≤ c) (hm63 : c ≤ 9223372036854775807) (ho : o + 4 ≤ N) (hn0 : 0 ≤ n) (hn1 : n < 4294967296)
    (hB : Below w0.heap.size w0 w) (h0 : Kd.R (Kd.int .u8) 5 w w0.heap.size ok (.slice (some ⟨g, 0, none⟩) N cap) l0) :
    Calls Try.prog 15 #[.slice (some ⟨g, o, none⟩) m c, .int .u32 n] w fun e w' => e = .returned (.tuple #[]) ∧ Kd.R (Kd.int .u8) 5 w' w0.heap.size ok (.slice (some ⟨g, 0, none⟩) N cap) (put4 l0 o n 4) ∧ Below w0.heap.size w0 w' := by
  have HO := Aside0.mk h0
  have HB := Aside0.mk hB
  clear h0 hB
  go_enter Try.func15, Try.ntmps15
  go_wp2
  go_loopw [5] (fun i wr => Aside0 (Below w0.heap.size w0 wr) ∧ ((i = .int .i64 0 ∧ Aside0 (Kd.R (Kd.int .u8) 5 wr w0.heap.size ok (.slice (some ⟨g, 0, none⟩) N cap) (put4 l0 o n 0))) ∨ (i = .int .i64 1 ∧ Aside0 (Kd.R (Kd.int .u8) 5 wr w0.heap.size ok (.slice (some ⟨g, 0, none⟩) N cap) (put4 l0 o n 1))) ∨ (i = .int .i64 2 ∧ Aside0 (Kd.R (Kd.int .u8) 5 wr w0.heap.size ok (.slice (some ⟨g, 0, none⟩) N cap) (put4 l0 o n 2))) ∨ (i = .int .i64 3 ∧ Aside0 (Kd.R (Kd.int .u8) 5 wr w0.heap.size ok (.slice (some ⟨g, 0, none⟩) N cap) (put4 l0 o n 3))) ∨ (i = .int .i64 4 ∧ Aside0 (Kd.R (Kd.int .u8) 5 wr w0.heap.size ok (.slice (some ⟨g, 0, none⟩) N cap) (put4 l0 o n 4))))) (fun i _ => 4 - (intOf i).toNat)
  case atStart => exact ⟨HB, .inl ⟨rfl, HO⟩⟩
  case round =>
    obtain ⟨HB1, hk⟩ := hrel
    clear HO HB
    rcases hk with ⟨rfl, HO1⟩ | ⟨rfl, HO1⟩ | ⟨rfl, HO1⟩ | ⟨rfl, HO1⟩ | ⟨rfl, HO1⟩
    · obtain ⟨hx, hf⟩ := Kd.R_celln 0 HO1.out ((o : Nat) : Int) (by omega) (by omega)
      have HP := Kd.R_putg HO1.out ((o : Nat) : Int) (n / 16777216)
      rw [Int.toNat_natCast] at hx hf HP
      have HQ := Aside0.mk (show Kd.R (Kd.int .u8) 5 (wr.setCell ⟨g, o, none⟩ (.int .u8 (n / 16777216))) w0.heap.size ok (.slice (some ⟨g, 0, none⟩) N cap) (put4 l0 o n 1) from by rw [show put4 l0 o n 1 = l0.set o (n / 16777216) from by simp only [put4]; rw [Int.emod_eq_of_lt (by omega) (by omega)]]; exact HP.1)
      have HS := Aside0.mk (pw_below_grown HB1.out (some g) (HB1.out).size HP.2 (fun k hk => by injection hk with hk; subst hk; exact Kd.R_base HO1.out _ rfl))
      clear HP
      go_wp2
      go_roundw
      case rel => exact ⟨HS, .inr (.inl ⟨rfl, ⟨HQ.out⟩⟩)⟩
      case measure => simp [intOf]
    · obtain ⟨hx, hf⟩ := Kd.R_celln 0 HO1.out ((o + 1 : Nat) : Int) (by omega) (by omega)
      have HP := Kd.R_putg HO1.out ((o + 1 : Nat) : Int) (n / 65536 % 256)
      rw [Int.toNat_natCast] at hx hf HP
      have HQ := Aside0.mk (show Kd.R (Kd.int .u8) 5 (wr.setCell ⟨g, o + 1, none⟩ (.int .u8 (n / 65536 % 256))) w0.heap.size ok (.slice (some ⟨g, 0, none⟩) N cap) (put4 l0 o n 2) from HP.1)
      have HS := Aside0.mk (pw_below_grown HB1.out (some g) (HB1.out).size HP.2 (fun k hk => by injection hk with hk; subst hk; exact Kd.R_base HO1.out _ rfl))
      clear HP
      go_wp2
      go_roundw
      case rel => exact ⟨HS, .inr (.inr (.inl ⟨rfl, ⟨HQ.out⟩⟩))⟩
      case measure => simp [intOf]
    · obtain ⟨hx, hf⟩ := Kd.R_celln 0 HO1.out ((o + 2 : Nat) : Int) (by omega) (by omega)
      have HP := Kd.R_putg HO1.out ((o + 2 : Nat) : Int) (n / 256 % 256)
      rw [Int.toNat_natCast] at hx hf HP
      have HQ := Aside0.mk (show Kd.R (Kd.int .u8) 5 (wr.setCell ⟨g, o + 2, none⟩ (.int .u8 (n / 256 % 256))) w0.heap.size ok (.slice (some ⟨g, 0, none⟩) N cap) (put4 l0 o n 3) from HP.1)
      have HS := Aside0.mk (pw_below_grown HB1.out (some g) (HB1.out).size HP.2 (fun k hk => by injection hk with hk; subst hk; exact Kd.R_base HO1.out _ rfl))
      clear HP
      go_wp2
      go_roundw
      case rel => exact ⟨HS, .inr (.inr (.inr (.inl ⟨rfl, ⟨HQ.out⟩⟩)))⟩
      case measure => simp [intOf]
    · obtain ⟨hx, hf⟩ := Kd.R_celln 0 HO1.out ((o + 3 : Nat) : Int) (by omega) (by omega)
      have HP := Kd.R_putg HO1.out ((o + 3 : Nat) : Int) (n % 256)
      rw [Int.toNat_natCast] at hx hf HP
      have HQ := Aside0.mk (show Kd.R (Kd.int .u8) 5 (wr.setCell ⟨g, o + 3, none⟩ (.int .u8 (n % 256))) w0.heap.size ok (.slice (some ⟨g, 0, none⟩) N cap) (put4 l0 o n 4) from HP.1)
      have HS := Aside0.mk (pw_below_grown HB1.out (some g) (HB1.out).size HP.2 (fun k hk => by injection hk with hk; subst hk; exact Kd.R_base HO1.out _ rfl))
      clear HP
      go_wp2
      go_roundw
      case rel => exact ⟨HS, .inr (.inr (.inr (.inr ⟨rfl, ⟨HQ.out⟩⟩)))⟩
      case measure => simp [intOf]
    · go_wp2
      go_end0
      exact ⟨rfl, HO1.out, HB1.out⟩
section
variable {P : Program} {ops : Array Oper} {rest : List Oper} {o : Oper} {a : Act} {Q : Exit → Act → World → Prop} {α : Type}
/-- copy(v[q:], ys), v a row of scalars of one's own, ys as long as v[q:] -/
theorem R_copyAt {enc : α → Value} {h1 : ∀ x, (enc x).oneCell' = true} (d : α) {w0 W : World} (base : Nat) (hgd : o.guard = none) (s x : Operand) (t t' e : TypeId)
    (ho : o.op = .call { callee := .builtin .copy, args := #[s, x], argTypes := #[t, t'] }) (ht : P.underlying t = some (.slice e)) (hinfo : (P.info? e).map (·.size) = some 1)
    (g N cap q : Nat) (B : Option Addr) (m1 c1 : Nat) (xs ys : List α) (A : Option Addr) (m c : Nat) (ok : Nat → Prop) (hs : a.eval s = .slice B m1 c1) (hx : a.eval x = .slice A m c)
    (HO : (Kd.scalar enc h1).R e W base ok (.slice (some ⟨g, 0, none⟩) N cap) xs) (HR : (Kd.scalar enc h1).C W A m ys) (hq : q + m = N) (hm1 : m1 = m) (hBq : m = 0 ∨ B = some ⟨g, q, none⟩) (HB : Below base w0 W) (hbase : base ≤ W.heap.size)
    (h : ∀ w1, (Kd.scalar enc h1).R e w1 base ok (.slice (some ⟨g, 0, none⟩) N cap) (xs.take q ++ ys) → Below base w0 w1 → W.grownBy w1 (some g) → wpList P ops Q rest (a.put o.dst (.int .i64 (m : Int))) w1) :
    wpList P ops Q (o :: rest) a W := by
  subst hm1
  have hR := Kd.reads_of_C (enc := enc) (d := d) (h1 := h1) HR
  have hm : ys.length = m1 := hR.1
  have hown := Kd.own_of_R HO
  have hN : xs.length = N := (Kd.R_reads' HO).1.symm
  have fin : ∀ w1, (Builtin.copy_ #[t, t'] o.type #[.slice B m1 c1, .slice A m1 c]).run P W = .ok (goInt (m1 : Int)) w1 → (Kd.scalar enc h1).R e w1 base ok (.slice (some ⟨g, 0, none⟩) N cap) (xs.take q ++ ys) → W.grownBy w1 (some g) → wpList P ops Q (o :: rest) a W := by
    intro w1 hr hrow hg
    refine wpList_plain hgd fun K hK => ?_
    unfold Oper.wp execOp
    simp only [ho, resolve, invoke, builtin, Sem.run_bind, Sem.run_pure, Result.andThen_ok, List.map_toArray, List.map_cons, List.map_nil, hs, hx, hr]
    exact hK _ _ (h w1 hrow (HB.grown hg hbase (fun k hk => by injection hk with hk; subst hk; exact own_base hown _ rfl)) hg)
  rcases Nat.eq_zero_or_pos m1 with h0 | hp
  · have hy : ys = [] := List.eq_nil_of_length_eq_zero (by omega)
    subst hy
    refine fin W ?_ (by rw [List.append_nil, List.take_of_length_le (by omega)]; exact HO) (World.grownBy.refl W _)
    rw [h0]
    exact run_copy_none W t t' o.type e B A 0 c1 0 c ht hinfo rfl
  · obtain ⟨ad, hA, hc⟩ := hR.2.2 hp
    have hB : B = some ⟨g, q, none⟩ := by rcases hBq with h | h; omega; exact h
    rcases hown.2 with ⟨hv, _⟩ | ⟨g', cap', cur, hv, hb, hh, hnc, hcm, hcs, htake⟩
    · cases hv
    injection hv with hv1 hv2 hv3
    injection hv1 with hv1
    injection hv1 with hv1 _ _
    subst hv1 hv3
    have hcs1 : cur.size = cap := by omega
    have hsrc : ∀ j u, (encs enc ys)[j]? = some u → W.cell? (ad.add j) = some u := by
      intro j u hu
      have hj : j < ys.length := by
        rcases Nat.lt_or_ge j ys.length with h | h
        · exact h
        · rw [List.getElem?_eq_none (by rw [encs_length]; exact h)] at hu
          cases hu
      rw [encs_get (d := d) _ j hj] at hu
      rw [hc j (by omega), ← hu]
    have hkl : (encs enc ys).length = m1 := by rw [encs_length]; omega
    have hr := run_copy_cells (P := P) W t t' o.type e g q m1 c1 ad m1 c (encs enc ys) ht hinfo (by rw [hkl]; simp) hsrc
      (fun j hj => by rw [cell_of_row W g _ cur e (0, 0) hh]; simp; omega) (fun j _ => blk_frozen hh _) (by intro u hu; simp only [encs, List.mem_map] at hu; obtain ⟨q, _, rfl⟩ := hu; exact h1 q)
    obtain ⟨cur', h3, h4, h5⟩ := setCells_row (encs enc ys) q W cur hh (by rw [hkl]; omega)
    obtain ⟨s1, s2, s3, s4⟩ := setCells_same g (encs enc ys) q W
    refine fin _ (by rw [hB, hA, hr, hkl]) (Kd.R_of_own ?_ HO.1) ⟨s1, s2, s3, by rw [s4]; exact Nat.le_refl _, fun k _ hk => setCells_far _ _ k (fun he => hk (by rw [he]))⟩
    have hln : (xs.take q ++ ys).length = N := by
      rw [List.length_append, List.length_take]
      omega
    rw [hln]
    refine ⟨by rw [encs_length, hln, Nat.mul_one], .inr ⟨g, cap, cur', rfl, hb, h3, by omega, hcm, by rw [h4, hcs], ?_⟩⟩
    have hq1 : (cur.toList.take q).length = q := by rw [List.length_take, Array.length_toList]; omega
    rw [h5, Nat.mul_one, List.take_append_of_le_length (by rw [List.length_append, hq1, hkl]; omega), List.take_of_length_le (by rw [List.length_append, hq1, hkl]; omega), encs_append]
    congr 1
    have ht2 : (cur.toList.take xs.length).take q = (encs enc xs).take q := by rw [← htake, Nat.mul_one]
    rw [List.take_take, Nat.min_eq_left (by omega)] at ht2
    rw [ht2]
    simp [encs, List.map_take]
end
theorem slice_from {P : Program} (t e : TypeId) {i : TypeInfo} (ht : P.underlying t = some (.slice e)) (hi : P.info? e = some i) (hsz : i.size = 1) (g N cap k m c : Nat) (kI : Int) (hk : kI = (k : Int)) (hN : k + m = N) (hc : k + c = cap) :
    ∃ B : Option Addr, (c = 0 ∨ B = some ⟨g, k, none⟩) ∧ ∀ W : World, (Instr.slice t (.slice (some ⟨g, 0, none⟩) N cap) (some (.int .i64 kI)) none none).run P W = .ok (.slice B m c) W := by
  refine ⟨if cap = k then some ⟨g, 0, none⟩ else (some (⟨g, 0, none⟩ : Addr)).map (·.add k), ?_, fun W => ?_⟩
  · by_cases h : cap = k
    · exact .inl (by omega)
    · rw [if_neg h]
      refine .inr ?_
      simp only [Option.map_some, add_plain]
  · have hel : P.elem t = e := by simp [Program.elem, ht]
    have hu : P.underlying t = some (.slice (P.elem t)) := by rw [hel]; exact ht
    subst hk
    rw [run_slice_l W t (some ⟨g, 0, none⟩) N cap hu .i64 (k : Int) (Int.natCast_nonneg _) (by omega), hel]
    simp only [sizeOf, typeInfo, hi, hsz, sliced, Int.toNat_natCast, Nat.mul_one]
    rw [show N - k = m by omega, show cap - k = c by omega]
    simp [Result.andThen, hi, hsz]
theorem slice_upto {P : Program} (t e : TypeId) {i : TypeInfo} (ht : P.underlying t = some (.slice e)) (hi : P.info? e = some i) (hsz : i.size = 1) (A : Option Addr) (N cap k : Nat) (kI : Int) (hk : kI = (k : Int)) (hN : k ≤ N) (hc : N ≤ cap) :
    ∀ W : World, (Instr.slice t (.slice A N cap) none (some (.int .i64 kI)) none).run P W = .ok (.slice A k cap) W := by
  intro W
  have hel : P.elem t = e := by simp [Program.elem, ht]
  have hu : P.underlying t = some (.slice (P.elem t)) := by rw [hel]; exact ht
  have ha : (A.map fun x => x.add 0) = A := by cases A <;> simp [Addr.add]
  subst hk
  rw [run_slice_h W t A N cap hu .i64 (k : Int) (Int.natCast_nonneg _) (by omega), hel]
  simp [sizeOf, typeInfo, hi, hsz, sliced, Result.andThen, ha]
theorem four_len (l0 : List Int) : ((put4 (List.replicate (8 + l0.length) 0) 0 (l0.length : Int) 4).take 8 ++ l0).length = 8 + l0.length := by
  rw [List.length_append, List.length_take, put4_length, List.length_replicate]; omega
theorem four_take (l0 : List Int) : ((put4 (List.replicate (8 + l0.length) 0) 0 (l0.length : Int) 4).take 8 ++ l0).take 4 = four (l0.length : Int) := by
  rw [Nat.add_comm]
  simp [put4, four, List.replicate_succ]
theorem four_all (l0 : List Int) (s2 : Int) : put4 ((put4 (List.replicate (8 + l0.length) 0) 0 (l0.length : Int) 4).take 8 ++ l0) 4 s2 4 = four (l0.length : Int) ++ (four s2 ++ l0) := by
  rw [Nat.add_comm 8]
  simp [put4, four, List.replicate_succ]
set_option maxHeartbeats 2000000 in
theorem Frame_core (ks : Nat) (s1 s2 : Int) (A0 : Option Addr) (c0 : Nat) (l0 : List Int) (w : World) (hr0 : Kd.C (Kd.int .u8) w A0 l0.length l0) (hc0 : l0.length ≤ c0) (hl : l0.length ≤ 65536)
    (hs1 : frame_Sum.f ks (four (l0.length : Int)) = some s1) (hs2 : frame_Extend.f ks s1 l0 = some s2) (b1 : 0 ≤ s2) (b2 : s2 < 4294967296) :
    Calls Try.prog 5 #[.slice A0 l0.length c0] w fun e w' => ∃ v0_ : Value, e = .returned (.tuple #[v0_, .int .i64 0]) ∧ Kd.R (Kd.int .u8) 5 w' w.heap.size (fun _ => True) v0_ (four (l0.length : Int) ++ (four s2 ++ l0)) ∧ Below w.heap.size w w' := by
  have HR0 := Aside0.mk hr0
  have HC0 := Aside0.mk hc0
  have HB := Aside0.mk (Below.refl w.heap.size w)
  have HS1 := Aside0.mk hs1
  have HS2 := Aside0.mk hs2
  clear hr0 hc0 hs1 hs2
  have c2b0 : decide (65536 < (l0.length : Int)) = false := decide_eq_false (by omega)
  have c2b1 : decide (65536 < l0.length) = false := decide_eq_false (by omega)
  obtain ⟨i5, hi5, _, hsz5, _⟩ := info_parts info5
  have hF4 := Aside0.mk (four_take l0)
  have hF := Aside0.mk (four_all l0 s2)
  have hL4 := Aside0.mk (four_len l0)
  go_enter Try.func5, Try.ntmps5
  go_wp2_with (first
    | ((with_reducible refine gate_dst (N := 11) rfl ?_); refine Kd.R_make (Kd.int .u8) _ 5 rfl (N := 11) rfl 24 _ _ rfl (8 + (l0.length : Int)) rfl rfl Try.underlying24 (.int .u8 0) 1 info5 rfl (by decide) (by omega) 0 (ok := fun _ => True) (okp := fun _ => True) rfl (fun _ hk => hk) trivial (by omega) (by omega) (Below.refl _ _) (Nat.le_refl _) ?_;
       intro v w1 ho hb1 hg1 hn1; have HO := Aside0.mk ho; have HB1 := Aside0.mk hb1; clear hb1 hg1 hn1; obtain ⟨g, cap, rfl, hge, hlt, hcells⟩ := Kd.R_form ho (by simp; omega); clear hcells ho; clear HB)
    | fail)
  have hN : (8 + (l0.length : Int)).toNat = 8 + l0.length := by omega
  have HO1 : Aside0 (Kd.R (Kd.int .u8) 5 w1 w.heap.size (fun _ => True) (.slice (some ⟨g, 0, none⟩) (8 + l0.length) cap) (List.replicate (8 + l0.length) 0)) := ⟨by have h := HO.out; rw [hN, List.length_replicate] at h; exact h⟩
  clear HO hN
  have hcap : 8 + l0.length ≤ cap := (Kd.R_reads' HO1.out).2.1
  have hmax : cap ≤ 9223372036854775807 := by
    rcases (Kd.own_of_R HO1.out).2 with ⟨hv, _⟩ | ⟨g', cap', cur, hv, hb, hh, hnc, hcm, _⟩
    · cases hv
    · injection hv with _ _ hv; subst hv; unfold maxLen at hcm; omega
  obtain ⟨B8_, hB8_, sl8⟩ := slice_from (P := Try.prog) 24 5 Try.underlying24 hi5 hsz5 g (8 + l0.length) cap 8 l0.length (cap - 8) 8 rfl rfl (by omega)
  obtain ⟨B4_, hB4_, sl4⟩ := slice_from (P := Try.prog) 24 5 Try.underlying24 hi5 hsz5 g (8 + l0.length) cap 4 (4 + l0.length) (cap - 4) 4 rfl (by omega) (by omega)
  have slu := slice_upto (P := Try.prog) 24 5 Try.underlying24 hi5 hsz5 (some ⟨g, 0, none⟩) (8 + l0.length) cap 4 4 rfl (by omega) hcap
  obtain rfl : B4_ = some ⟨g, 4, none⟩ := by rcases hB4_ with h | h; omega; exact h
  have HB8 := Aside0.mk hB8_
  clear hB8_ hB4_ hi5 hsz5
  refine (put_at g cap 0 (8 + l0.length) (8 + l0.length) cap _ (l0.length : Int) w w1 (fun _ => True) (by omega) hcap hmax (by omega) (by omega) (by omega) HB1.out HO1.out).mono ?_
  rintro e w2 ⟨rfl, ho2, hb2⟩
  have HO2 := Aside0.mk ho2
  have HB2 := Aside0.mk hb2
  clear ho2 hb2 HO1 HB1
  go_wp2_with (first
    | ((with_reducible refine gate_builtin (b := .copy) (xs := #[.tmp 18, .tmp 19]) rfl ?_); refine R_copyAt (enc := Value.int .u8) (0 : Int) (w0 := w) w.heap.size rfl (.tmp 18) (.tmp 19) 24 24 5 rfl Try.underlying24 (by kernel_rfl) g (8 + l0.length) cap 8 B8_ l0.length (cap - 8) _ l0 A0 l0.length c0 (fun _ => True) rfl rfl HO2.out (Kd.C_below HR0.out HB2.out) rfl rfl (by rcases HB8.out with h | h; (exact .inl (by omega)); exact .inr h) HB2.out (HB2.out).size ?_;
       intro w3 ho3 hb3 hg3; have HO3 := Aside0.mk ho3; have HB3 := Aside0.mk hb3; clear ho3 hb3 hg3 HO2 HB2)
    | fail)
  refine start_ (n := 8) (S := fun _ => True) (ds := []) #[false, false, false, false, false, false, false, false] (by kernel_rfl) rfl rfl trivial (fun hHeld => ?_)
  have HO4 := Aside0.mk (Kd.R_drew HO3.out)
  have HB4 := Aside0.mk (below_drew1 HB3.out)
  clear HO3 HB3
  generalize w3.drew = w4 at HO4 HB4 hHeld ⊢
  refine pure_ (i := 0) (N := some 21) (v := ?_) (a' := ?_) #[true, false, false, false, false, false, false, false] rfl rfl (by kernel_rfl) (fun _ _ _ h => h) (Or.inl ⟨by rfl, ?_⟩) ?_ ?_
  rotate_left
  · intro w'
    go_simp
    with_reducible rfl
  rotate_left
  · simp only [Act.put, List.setIfInBounds_toArray, List.set_cons_zero, List.set_cons_succ, i64_w, i32_w]
    rfl
  refine pure_ (i := 1) (N := some 22) (v := ?_) (a' := ?_) #[true, true, false, false, false, false, false, false] rfl rfl (by kernel_rfl) (fun _ _ _ h => h) (Or.inl ⟨by rfl, ?_⟩) ?_ ?_
  rotate_left
  · intro w'
    go_simp
    with_reducible rfl
  rotate_left
  · simp only [Act.put, List.setIfInBounds_toArray, List.set_cons_zero, List.set_cons_succ, i64_w, i32_w]
    rfl
  refine pure_ (i := 2) (N := some 23) (v := ?_) (a' := ?_) #[true, true, true, false, false, false, false, false] rfl rfl (by kernel_rfl) (fun _ _ _ h => h) (Or.inl ⟨by rfl, ?_⟩) ?_ ?_
  rotate_left
  · intro w'
    go_simp
    with_reducible rfl
  rotate_left
  · simp only [Act.put, List.setIfInBounds_toArray, List.set_cons_zero, List.set_cons_succ, i64_w, i32_w]
    rfl
  refine pure_ (i := 3) (N := some 24) (v := ?_) (a' := ?_) #[true, true, true, true, false, false, false, false] rfl rfl (by kernel_rfl) (fun _ _ _ h => h) (Or.inl ⟨by rfl, ?_⟩) ?_ ?_
  rotate_left
  · intro w'
    go_simp
    with_reducible rfl
  rotate_left
  · simp only [Act.put, List.setIfInBounds_toArray, List.set_cons_zero, List.set_cons_succ, i64_w, i32_w]
    rfl
  refine pure_ (i := 5) (N := some 26) (v := ?_) (a' := ?_) #[true, true, true, true, false, true, false, false] rfl rfl (by kernel_rfl) (fun _ _ _ h => h) (Or.inl ⟨by rfl, ?_⟩) ?_ ?_
  rotate_left
  · intro w'
    go_simp
    with_reducible rfl
  rotate_left
  · simp only [Act.put, List.setIfInBounds_toArray, List.set_cons_zero, List.set_cons_succ, i64_w, i32_w]
    rfl
  refine one_ (i := 4) (N := some 25) #[true, true, true, true, true, true, false, false] rfl rfl (by kernel_rfl) (by decide) (fun K hK => ?_)
  refine goes_ Try.func9 (by kernel_rfl) rfl #[.slice (some ⟨g, 0, none⟩) 4 cap] (by rfl) rfl rfl (by (try simp only [List.map_toArray, List.map_cons, List.map_nil]); first | done | rfl) ?_
  refine (frame_Sum.calls ks (some ⟨g, 0, none⟩) cap (four (l0.length : Int)) s1 w4 (by have h := Kd.C_take (Kd.R_reads' HO4.out).2.2 (m := 4) (by rw [hL4.out]; omega); rw [hF4.out] at h; exact h) (by simp [four]; omega) HS1.out).mono ?_
  rintro e w5 ⟨rfl, hd5⟩
  refine ⟨_, rfl, ?_⟩
  refine hK.out _ _ trivial (fun hHeld => ?_)
  clear hK K
  refine norm_ (a' := ?_) ?_ ?_
  rotate_left
  · show Act.put _ (some 25) _ = _
    simp only [Act.put, List.setIfInBounds_toArray, List.set_cons_zero, List.set_cons_succ, i64_w, i32_w]
    rfl
  have HO5 := Aside0.mk (Kd.R_below HO4.out hd5.below)
  have HB5 := Aside0.mk (below_step HB4.out hd5.below)
  clear HO4 HB4 hd5
  refine one_ (i := 6) (N := some 27) #[true, true, true, true, true, true, true, false] rfl rfl (by kernel_rfl) (by decide) (fun K hK => ?_)
  refine goes_ Try.func16 (by kernel_rfl) rfl #[.int .u32 s1, .slice A0 l0.length c0] (by rfl) rfl rfl (by (try simp only [List.map_toArray, List.map_cons, List.map_nil]); first | done | rfl) ?_
  refine (frame_Extend.calls ks s1 A0 c0 l0 s2 w5 (Kd.C_below HR0.out HB5.out) HC0.out HS2.out).mono ?_
  rintro e w6 ⟨rfl, hd6⟩
  refine ⟨_, rfl, ?_⟩
  refine hK.out _ _ trivial (fun hHeld => ?_)
  clear hK K
  refine norm_ (a' := ?_) ?_ ?_
  rotate_left
  · show Act.put _ (some 27) _ = _
    simp only [Act.put, List.setIfInBounds_toArray, List.set_cons_zero, List.set_cons_succ, i64_w, i32_w]
    rfl
  have HO6 := Aside0.mk (Kd.R_below HO5.out hd6.below)
  have HB6 := Aside0.mk (below_step HB5.out hd6.below)
  clear HO5 HB5 hd6
  refine one_ (i := 7) (N := some 28) #[true, true, true, true, true, true, true, true] rfl rfl (by kernel_rfl) (by decide) (fun K hK => ?_)
  refine goes_ Try.func15 (by kernel_rfl) rfl #[.slice (some ⟨g, 4, none⟩) (4 + l0.length) (cap - 4), .int .u32 s2] (by rfl) rfl rfl (by (try simp only [List.map_toArray, List.map_cons, List.map_nil]); first | done | rfl) ?_
  refine (put_at g cap 4 (8 + l0.length) (4 + l0.length) (cap - 4) _ s2 w w6 (fun _ => True) (by omega) (by omega) (by omega) (by omega) b1 b2 HB6.out HO6.out).mono ?_
  rintro e w7 ⟨rfl, ho7, hb7⟩
  have HO7 := Aside0.mk ho7
  have HB7 := Aside0.mk hb7
  clear ho7 hb7 HO6 HB6
  refine ⟨_, rfl, ?_⟩
  refine hK.out _ _ trivial (fun hHeld => ?_)
  clear hK K
  refine norm_ (a' := ?_) ?_ ?_
  rotate_left
  · show Act.put _ (some 28) _ = _
    simp only [Act.put, List.setIfInBounds_toArray, List.set_cons_zero, List.set_cons_succ, i64_w, i32_w]
    rfl
  refine done_ (by kernel_rfl) ?_
  go_wp2
  go_ret2
  exact ⟨_, rfl, by rw [← hF.out]; exact HO7.out, HB7.out⟩
theorem frame_Frame.calls (A0 : Option Addr) (c0 : Nat) (l0 : List Int) (r1 : List Int) (r2 : Int) (w : World) (hr0 : Kd.C (Kd.int .u8) w A0 l0.length l0) (hc0 : l0.length ≤ c0) (h : frame_Frame.f l0 = some (r1, r2)) :
    Calls Try.prog 5 #[.slice A0 l0.length c0] w fun e w' => ∃ v0_ : Value, e = .returned (.tuple #[v0_, .int .i64 r2]) ∧ Kd.R (Kd.int .u8) 5 w' w.heap.size (fun _ => True) v0_ r1 ∧ Below w.heap.size w w' := by
  unfold frame_Frame.f at h
  split at h
  · rename_i hb
    have hB := (okB_iff _).1 hb
    split at h
    · rename_i hl
      obtain ⟨rfl, rfl⟩ : [] = r1 ∧ 6 = r2 := by simpa using h
      have c2b0 : decide (65536 < (l0.length : Int)) = true := decide_eq_true hl
      have c2b1 : decide (65536 < l0.length) = true := decide_eq_true (by omega)
      clear hr0 hb hB h hl
      go_enter Try.func5, Try.ntmps5
      go_wp2
      go_ret2
      exact ⟨_, rfl, Kd.R_nil _ _ _ _ _, Below.refl _ _⟩
    · rename_i hl
      obtain ⟨rfl, rfl⟩ : frameBytes l0 = r1 ∧ 0 = r2 := by simpa using h
      have hf := B8_four (l0.length : Int) (by omega)
      obtain ⟨K1, h1⟩ := Sum_is (four (l0.length : Int)) (by simp [four]) hf
      obtain ⟨K2, h2⟩ := Extend_is (fextend 0 (four (l0.length : Int))) l0 (fextend_range _ _).1 (fextend_range _ _).2 (by omega) hB
      exact Frame_core (max K1 K2) _ _ A0 c0 l0 w hr0 hc0 (by omega) (h1 _ (Nat.le_max_left _ _)) (h2 _ (Nat.le_max_right _ _)) (fextend_range _ _).1 (fextend_range _ _).2
  · cases h


end Go.Proofs.Ytaacjoeldgganaa.S
