/- Plain facts for the head: bytes and texts as lists, cuts and splits, what is a token and a value. -/
import Derived.Test.YtabkdmfnafeaeaaDoorQx12
import Derived.Test.YtabkdmfnafeaeaaDoorQx18
import Derived.Test.YtabkdmfnafeaeaaDoorQx22
import Derived.Test.YtabkdmfnafeaeaaDoorQx23
import Derived.Test.YtabkdmfnafeaeaaDoorQx6
import Derived.Lib.CountLaws
import Derived.Lib.IndexLaws
import Derived.Lib.Split
namespace Go.Proofs.YtabkdmfnafeaeaaDoor.HP
open Go.RowKit Go.Proofs.YtabkdmfnafeaeaaDoor.Q Go.Proofs.YtabkdmfnafeaeaaDoorW.PrintWords Go.Proofs.YtabkdmfnafeaeaaDoorW.PrintLast Go.Proofs.YtabkdmfnafeaeaaDoorW.PrintMore
theorem Ev.pos {α : Type} {c : Prop} [Decidable c] {a b : Nat → Option α} {r : α} (hc : c) (h : Ev a r) : Ev (fun k => if c then a k else b k) r := Ev.congr (fun _ => if_pos hc) h
theorem Ev.neg {α : Type} {c : Prop} [Decidable c] {a b : Nat → Option α} {r : α} (hc : ¬ c) (h : Ev b r) : Ev (fun k => if c then a k else b k) r := Ev.congr (fun _ => if_neg hc) h
theorem Ev.put {α β : Type} {x : β} {f : Nat → β → Option α} {r : α} (h : Ev (fun k => f k x) r) : Ev (fun k => (some x).bind (f k)) r := h
theorem Ev.call {α β : Type} {g : Option β} {x : β} {f : Nat → β → Option α} {r : α} (hg : g = some x) (h : Ev (fun k => f k x) r) : Ev (fun k => g.bind (f k)) r := by rw [hg]; exact h
theorem Ev.ret {α : Type} {a r : α} (h : a = r) : Ev (fun _ => some a) r := by rw [h]; exact Ev.now _
/-- a text of bytes -/
def B (l : List UInt8) : ByteArray := ⟨l.toArray⟩
theorem B_list (l : List UInt8) : (B l).data.toList = l := by simp [B]
theorem B_of (s : ByteArray) : B s.data.toList = s := by simp [B]
theorem B_size (l : List UInt8) : (B l).size = l.length := by simp [B, ByteArray.size]
theorem B_inj {a b : List UInt8} (h : B a = B b) : a = b := by rw [← B_list a, h, B_list]
theorem B_append (a b : List UInt8) : B a ++ B b = B (a ++ b) := by
  rw [← B_of (B a ++ B b)]
  congr 1
theorem B_toList (l : List UInt8) : (B l).toList = l := by rw [Lib.toList_data, B_list]
theorem B_bt (l : List UInt8) (i : Nat) (hi : i < l.length) : bt (B l) (i : Int) = ((l[i]).toNat : Int) := by
  unfold bt
  rw [dif_pos (by rw [Int.toNat_natCast, B_size]; exact hi)]
  simp only [Int.toNat_natCast]
  rfl
theorem B_extract (l : List UInt8) (i j : Nat) : (B l).extract i j = B ((l.drop i).take (j - i)) := by
  rw [← B_of ((B l).extract i j), Lib.extract_data, B_list]
theorem wrap_succ (i : Nat) (h : i < 9223372036854775807) : wrap64 ((i : Int) + 1) = ((i + 1 : Nat) : Int) := by unfold wrap64; omega
/-! cuts and splits -/
theorem occ_not {s sub : List UInt8} {c : UInt8} {t : List UInt8} (hs : sub = c :: t) (j : Nat) (h : s[j]? ≠ some c) : Lib.occAt s sub j = false := by
  cases ho : Lib.occAt s sub j with
  | false => rfl
  | true => exact absurd (Lib.occAt_head hs ho) h
theorem index_one (a b : List UInt8) (c : UInt8) (ha : c ∉ a) : Lib.index (a ++ c :: b) [c] = (a.length : Int) := by
  refine Lib.index_first (i := a.length) (by simp) ?_ (fun j hj => occ_not rfl j ?_)
  · simp [Lib.occAt]
  · rw [List.getElem?_append_left hj]
    intro h
    exact ha (List.mem_of_getElem? h)
theorem index_two (a b : List UInt8) (c d : UInt8) (ha : c ∉ a) : Lib.index (a ++ c :: d :: b) [c, d] = (a.length : Int) := by
  refine Lib.index_first (i := a.length) (by simp) ?_ (fun j hj => occ_not rfl j ?_)
  · simp [Lib.occAt]
  · rw [List.getElem?_append_left hj]
    intro h
    exact ha (List.mem_of_getElem? h)
theorem index_no (a : List UInt8) (c : UInt8) (t : List UInt8) (ha : c ∉ a) : Lib.index a (c :: t) = -1 := by
  refine Lib.index_none (fun j _ => occ_not rfl j ?_)
  intro h
  exact ha (List.mem_of_getElem? h)
theorem cut_one (a b : List UInt8) (c : UInt8) (ha : c ∉ a) : Lib.cut (a ++ c :: b) [c] = (a, b, true) := by
  unfold Lib.cut
  rw [index_one a b c ha, if_pos (by omega), Int.toNat_natCast, List.take_left' rfl]
  simp
theorem cut_no (a : List UInt8) (c : UInt8) (ha : c ∉ a) : Lib.cut a [c] = (a, [], false) := by
  unfold Lib.cut
  rw [index_no a c [] ha, if_neg (by omega)]
theorem Cut_is (s sep : List UInt8) (hs : s.length < 4294967281) : strings_Cut.f (B s) (B sep) = some (B (Lib.cut s sep).1, B (Lib.cut s sep).2.1, (Lib.cut s sep).2.2) := by
  unfold strings_Cut.f
  rw [if_pos (by rw [B_size]; exact hs), B_list, B_list]
  rfl
/-- the lines -/
theorem split_more (a b : List UInt8) (ha : (13 : UInt8) ∉ a) : Lib.split (a ++ 13 :: 10 :: b) [13, 10] = a :: Lib.split b [13, 10] := by
  have h := index_two a b 13 10 ha
  unfold Lib.split
  rw [Lib.count_hit (by simp) h, Nat.add_comm]
  have hd : (a ++ 13 :: 10 :: b).drop (a.length + 2) = b := by simp
  simp only [Lib.splitK]
  rw [h, if_neg (by simp), Int.toNat_natCast, Nat.add_zero, List.take_left' rfl, show ([13, 10] : List UInt8).length = 2 from rfl, hd]
theorem split_last (a : List UInt8) (ha : (13 : UInt8) ∉ a) : Lib.split a [13, 10] = [a] := by
  unfold Lib.split
  rw [Lib.count_miss (index_no a 13 [10] ha)]
  rfl
theorem Split_is (s sep : List UInt8) (hs : s.length < 4294967281) (h1 : 1 ≤ sep.length) : strings_Split.f (B s) (B sep) = some ((Lib.split s sep).map B) := by
  unfold strings_Split.f
  rw [if_pos ⟨by rw [B_size]; exact hs, by rw [B_size]; exact h1⟩]
  congr 1
  have h := Lib.splitB_data (B sep) 0 (Lib.countB (B s) (B sep)) (B s)
  rw [B_list, B_list] at h
  have hc : Lib.countB (B s) (B sep) = Lib.count s sep := by
    show Lib.count _ _ = _
    rw [B_list, B_list]
  unfold Lib.split
  rw [← hc, ← h, List.map_map]
  conv => lhs; rw [← List.map_id (Lib.splitB (B sep) 0 (Lib.countB (B s) (B sep)) (B s))]
  apply List.map_congr_left
  intro x _
  exact (B_of x).symm
/-! bytes -/
theorem N8_B (l : List UInt8) : bytesOf (B l) = l.map (fun b => (b.toNat : Int)) := by rw [bytesOf, B_list]
theorem N8_back (l : List UInt8) : Lib.bytesOf (l.map (fun b => (b.toNat : Int))) = l := by
  unfold Lib.bytesOf
  rw [List.map_map]
  conv => rhs; rw [← List.map_id l]
  apply List.map_congr_left
  intro b _
  simp
theorem strOf_N8 (l : List UInt8) : strOfNums (l.map (fun b => (b.toNat : Int))) = B l := by
  unfold strOfNums B
  congr 2
  exact N8_back l
theorem N8_all (l : List UInt8) : ((l.map (fun b => (b.toNat : Int))).all fun x => decide (0 ≤ x ∧ x < 256)) = true := by
  rw [List.all_eq_true]
  intro x hx
  obtain ⟨b, _, rfl⟩ := List.mem_map.1 hx
  have := b.toNat_lt
  exact decide_eq_true ⟨by omega, by omega⟩
theorem Index_is (l sub : List UInt8) (hl : l.length < 4294967281) (h2 : 2 ≤ sub.length) (h3 : sub.length ≤ 100) : bytes_Index.f (l.map (fun b => (b.toNat : Int))) (sub.map (fun b => (b.toNat : Int))) = some (Lib.index l sub) := by
  unfold bytes_Index.f
  rw [if_pos ⟨N8_all l, N8_all sub, by rw [List.length_map]; exact hl, by rw [List.length_map]; exact h2, by rw [List.length_map]; omega⟩, N8_back, N8_back]
theorem Lower_is (l : List UInt8) (hl : l.length ≤ 4294967296) : head_lower.f (B l) = some (B (l.map lowB)) := by
  unfold head_lower.f
  rw [if_pos (by rw [B_size]; omega), B_list]
  rfl
theorem Trim_is (l cs : List UInt8) (hl : l.length ≤ 4294967296) (hc : cs.length ≤ 100) (ha : cs.all (fun b => decide (b.toNat < 128)) = true) : strings_Trim.f (B l) (B cs) = some (B (Lib.trimS l cs)) := by
  unfold strings_Trim.f
  rw [if_pos ⟨by rw [B_size]; omega, by rw [B_size]; omega, by rw [B_list]; exact ha⟩, B_list, B_list]
  rfl
/-! tokens -/
def alB (b : UInt8) : Bool := decide (97 ≤ b.toNat ∧ b.toNat ≤ 122 ∨ 65 ≤ b.toNat ∧ b.toNat ≤ 90 ∨ 48 ≤ b.toNat ∧ b.toNat ≤ 57)
def tokB (b : UInt8) : Bool := alB b || decide (0 ≤ Lib.indexByte [33, 35, 36, 37, 38, 39, 42, 43, 45, 46, 94, 95, 96, 124, 126] b)
def tokOk (l : List UInt8) : Bool := l.all tokB && (l != [])
theorem alnum_is (b : UInt8) : head_alnum.f (b.toNat : Int) = some (alB b) := by
  unfold head_alnum.f alB
  repeat' split
  all_goals simp only [Option.some.injEq]
  all_goals first
    | (symm; rw [decide_eq_true_eq]; omega)
    | (rw [decide_eq_decide]; omega)
    | (symm; rw [decide_eq_false_iff_not]; omega)
theorem token_loop (l : List UInt8) (hl : l.length ≤ 4294967296) : ∀ (d i : Nat), i + d = l.length → Ev (fun k => head_token.l0 k (B l) (l.length : Int) (i : Int)) ((l.drop i).all tokB && (l != [])) := by
  intro d
  induction d with
  | zero =>
    intro i hi
    refine Ev.step (fun k => by simp only [head_token.l0]; rfl) (Ev.neg (by omega) (Ev.ret ?_))
    rw [B_toList, List.drop_eq_nil_of_le (by omega)]
    simp
  | succ d ih =>
    intro i hi
    have hlt : i < l.length := by omega
    have hw := wrap_succ i (by omega)
    have hd : l.drop i = l[i] :: l.drop (i + 1) := List.drop_eq_getElem_cons hlt
    have hx : (B l).extract (i : Int).toNat ((i + 1 : Nat) : Int).toNat = B [l[i]] := by
      rw [Int.toNat_natCast, Int.toNat_natCast, B_extract, hd, Nat.add_sub_cancel_left]
      rfl
    have hi' := ih (i + 1) (by omega)
    refine Ev.step (fun k => by simp only [head_token.l0]; rfl) ?_
    refine Ev.pos (by omega) (Ev.pos (by omega) (Ev.pos (by rw [B_size]; omega) ?_))
    rw [B_bt l i hlt, hw]
    refine Ev.call (alnum_is _) ?_
    rw [hd, List.all_cons]
    cases hA : alB l[i] with
    | true =>
      refine Ev.pos rfl ?_
      have ht : tokB l[i] = true := by simp [tokB, hA]
      rw [ht, Bool.true_and]
      exact hi'
    | false =>
      refine Ev.neg (by simp) (Ev.pos (by omega) (Ev.pos (by rw [B_size]; omega) ?_))
      rw [hx]
      have hc : strings_Contains.f (⟨#[33, 35, 36, 37, 38, 39, 42, 43, 45, 46, 94, 95, 96, 124, 126]⟩ : ByteArray) (B [l[i]]) = some (tokB l[i]) := by
        unfold strings_Contains.f
        rw [if_pos (by rw [B_size]; rfl), B_list]
        simp [tokB, hA]
      refine Ev.call hc ?_
      cases ht : tokB l[i] with
      | true => exact Ev.pos rfl (by rw [Bool.true_and]; exact hi')
      | false => exact Ev.neg (by simp) (Ev.ret (by simp))
theorem token_is (l : List UInt8) (hl : l.length ≤ 4294967296) : Ev (fun k => head_token.f k (B l)) (tokOk l) := by
  unfold head_token.f
  rw [B_size]
  exact token_loop l hl l.length 0 (by omega)
/-! values -/
def blankB (b : UInt8) : Bool := decide (b.toNat = 9 ∨ b.toNat = 32)
def valB (b : UInt8) : Bool := decide ((b.toNat = 9 ∨ 32 ≤ b.toNat) ∧ b.toNat ≠ 127)
def endsOk (l : List UInt8) : Bool := match l with
  | [] => true
  | x :: r => !blankB x && !blankB ((x :: r).getLastD 0)
def valOk (l : List UInt8) : Bool := l.all valB && endsOk l
theorem blank_is (b : UInt8) : head_blank.f (b.toNat : Int) = some (blankB b) := by
  unfold head_blank.f blankB
  split
  · rename_i h
    simp only [Option.some.injEq]
    symm
    rw [decide_eq_true_eq]
    omega
  · rename_i h
    simp only [Option.some.injEq]
    rw [show ((b.toNat : Int) == 32) = decide ((b.toNat : Int) = 32) from rfl, decide_eq_decide]
    omega
theorem value_loop (l : List UInt8) (hl : l.length ≤ 4294967296) : ∀ (d i : Nat), i + d = l.length → Ev (fun k => head_value.l0 k (B l) (l.length : Int) (i : Int)) ((l.drop i).all valB && endsOk l) := by
  intro d
  induction d with
  | zero =>
    intro i hi
    refine Ev.step (fun k => by simp only [head_value.l0]; rfl) (Ev.neg (by omega) ?_)
    rw [B_toList, List.drop_eq_nil_of_le (by omega), List.all_nil, Bool.true_and]
    cases hc : l with
    | nil => exact Ev.pos rfl (Ev.ret rfl)
    | cons x r =>
      have hE : endsOk (x :: r) = (!blankB x && !blankB (l.getLastD 0)) := by rw [hc]; rfl
      rw [hE, ← hc]
      clear hE
      have h0 : 0 < l.length := by rw [hc]; simp
      have hb0 : bt (B l) 0 = (x.toNat : Int) := by
        have := B_bt l 0 h0
        simpa [hc] using this
      have hw : wrap64 (((B l).size : Int) - 1) = ((l.length - 1 : Nat) : Int) := by rw [B_size]; unfold wrap64; omega
      have hbl : bt (B l) ((l.length - 1 : Nat) : Int) = ((l.getLastD 0).toNat : Int) := by
        rw [B_bt l (l.length - 1) (by omega)]
        congr 2
        rw [List.getLastD_eq_getLast?, List.getLast?_eq_getElem?, List.getElem?_eq_getElem (by omega)]
        rfl
      refine Ev.neg (by rw [hc]; simp) (Ev.pos (by rw [B_size]; omega) ?_)
      rw [hb0]
      refine Ev.call (blank_is x) ?_
      cases hx : blankB x with
      | true => exact Ev.pos rfl (Ev.ret rfl)
      | false =>
        refine Ev.neg (by simp) ?_
        rw [hw, hbl]
        exact Ev.pos (by omega) (Ev.pos (by rw [B_size]; omega) (Ev.call (blank_is _) (Ev.ret (by simp))))
  | succ d ih =>
    intro i hi
    have hlt : i < l.length := by omega
    have hw := wrap_succ i (by omega)
    have hd : l.drop i = l[i] :: l.drop (i + 1) := List.drop_eq_getElem_cons hlt
    have hi' := ih (i + 1) (by omega)
    refine Ev.step (fun k => by simp only [head_value.l0]; rfl) ?_
    refine Ev.pos (by omega) (Ev.pos (by omega) (Ev.pos (by rw [B_size]; omega) ?_))
    rw [B_bt l i hlt, hw, hd, List.all_cons]
    cases hv : valB l[i] with
    | true =>
      have hv' : (l[i].toNat = 9 ∨ 32 ≤ l[i].toNat) ∧ l[i].toNat ≠ 127 := of_decide_eq_true hv
      rw [Bool.true_and]
      by_cases h9 : (l[i].toNat : Int) = 9
      · exact Ev.pos h9 (Ev.neg (by omega) hi')
      · exact Ev.neg h9 (Ev.neg (by omega) (Ev.neg (by omega) hi'))
    | false =>
      have hv' : ¬ ((l[i].toNat = 9 ∨ 32 ≤ l[i].toNat) ∧ l[i].toNat ≠ 127) := of_decide_eq_false hv
      rw [Bool.false_and, Bool.false_and]
      by_cases h9 : (l[i].toNat : Int) = 9
      · exact absurd hv' (by omega)
      · refine Ev.neg h9 ?_
        by_cases h32 : (l[i].toNat : Int) < 32
        · exact Ev.pos h32 (Ev.ret rfl)
        · exact Ev.neg h32 (Ev.pos (by omega) (Ev.ret rfl))
theorem value_is (l : List UInt8) (hl : l.length ≤ 4294967296) : Ev (fun k => head_value.f k (B l)) (valOk l) := by
  unfold head_value.f
  rw [B_size]
  exact value_loop l hl l.length 0 (by omega)
end Go.Proofs.YtabkdmfnafeaeaaDoor.HP
