/- Plain facts for the head: HPa, HPb, HPc, HPh, HPw, HPx, HPy, HPv, one behind the other. -/
import Derived.Test.YtabkdmfnafeaeaaDoorQx12
import Derived.Test.YtabkdmfnafeaeaaDoorQx18
import Derived.Test.YtabkdmfnafeaeaaDoorQx22
import Derived.Test.YtabkdmfnafeaeaaDoorQx23
import Derived.Test.YtabkdmfnafeaeaaDoorQx6
import Derived.Lib.CountLaws
import Derived.Lib.IndexLaws
import Derived.Lib.Split
import Derived.Test.YtabkdmfnafeaeaaDoorQx17
import Derived.Test.YtabkdmfnafeaeaaDoorQx24
import Derived.Test.YtabkdmfnafeaeaaDoorQx8
import Derived.Test.YtabkdmfnafeaeaaDoorQx14
import Derived.Test.YtabkdmfnafeaeaaDoorQx15
import Derived.Test.YtabkdmfnafeaeaaDoorQx17
import Derived.Test.YtabkdmfnafeaeaaDoorQx42
import Derived.Test.YtabkdmfnafeaeaaDoorQx8
import Derived.Test.YtabkdmfnafeaeaaDoorQx6
import Derived.Test.YtabkdmfnafeaeaaDoorQx8
import Derived.Test.YtabkdmfnafeaeaaDoorQx42
import Derived.Test.YtabkdmfnafeaeaaDoorQxOp
import Derived.Test.YtabkdmfnafeaeaaDoorQx37
namespace Go.Proofs.YtabkdmfnafeaeaaDoor.HP
open Go.RowKit Go.Proofs.YtabkdmfnafeaeaaDoor.Q Go.Proofs.YtabkdmfnafeaeaaDoorW.PrintWords Go.Proofs.YtabkdmfnafeaeaaDoorW.PrintLast Go.Proofs.YtabkdmfnafeaeaaDoorW.PrintMore
theorem Ev.pos {α : Type} {c : Prop} [Decidable c] {a b : Nat → Option α} {r : α} (hc : c) (h : Ev a r) : Ev (fun k => if c then a k else b k) r := Ev.congr (fun _ => if_pos hc) h
theorem Ev.neg {α : Type} {c : Prop} [Decidable c] {a b : Nat → Option α} {r : α} (hc : ¬ c) (h : Ev b r) : Ev (fun k => if c then a k else b k) r := Ev.congr (fun _ => if_neg hc) h
theorem Ev.put {α β : Type} {x : β} {f : Nat → β → Option α} {r : α} (h : Ev (fun k => f k x) r) : Ev (fun k => (some x).bind (f k)) r := h
theorem Ev.call {α β : Type} {g : Option β} {x : β} {f : Nat → β → Option α} {r : α} (hg : g = some x) (h : Ev (fun k => f k x) r) : Ev (fun k => g.bind (f k)) r := by rw [hg]; exact h
theorem Ev.ret {α : Type} {a r : α} (h : a = r) : Ev (fun _ => some a) r := by rw [h]; exact Ev.now _
/-- a text of bytes -/
def B (l : List UInt8) : ByteArray := ⟨l.toArray⟩
theorem B_list (l : List UInt8) : (B l).data.toList = l := by simp [B]
theorem B_of (s : ByteArray) : B s.data.toList = s := by simp [B]
theorem B_size (l : List UInt8) : (B l).size = l.length := by simp [B, ByteArray.size]
theorem B_append (a b : List UInt8) : B a ++ B b = B (a ++ b) := by
  rw [← B_of (B a ++ B b)]
  congr 1
theorem B_toList (l : List UInt8) : (B l).toList = l := by rw [Lib.toList_data, B_list]
theorem B_bt (l : List UInt8) (i : Nat) (hi : i < l.length) : bt (B l) (i : Int) = ((l[i]).toNat : Int) := by
  unfold bt
  rw [dif_pos (by rw [Int.toNat_natCast, B_size]; exact hi)]
  simp only [Int.toNat_natCast]
  rfl
theorem B_extract (l : List UInt8) (i j : Nat) : (B l).extract i j = B ((l.drop i).take (j - i)) := by
  rw [← B_of ((B l).extract i j), Lib.extract_data, B_list]
theorem wrap_succ (i : Nat) (h : i < 9223372036854775807) : wrap64 ((i : Int) + 1) = ((i + 1 : Nat) : Int) := by unfold wrap64; omega
/-! cuts and splits -/
theorem occ_not {s sub : List UInt8} {c : UInt8} {t : List UInt8} (hs : sub = c :: t) (j : Nat) (h : s[j]? ≠ some c) : Lib.occAt s sub j = false := by
  cases ho : Lib.occAt s sub j with
  | false => rfl
  | true => exact absurd (Lib.occAt_head hs ho) h
theorem index_one (a b : List UInt8) (c : UInt8) (ha : c ∉ a) : Lib.index (a ++ c :: b) [c] = (a.length : Int) := by
  refine Lib.index_first (i := a.length) (by simp) ?_ (fun j hj => occ_not rfl j ?_)
  · simp [Lib.occAt]
  · rw [List.getElem?_append_left hj]
    intro h
    exact ha (List.mem_of_getElem? h)
theorem index_two (a b : List UInt8) (c d : UInt8) (ha : c ∉ a) : Lib.index (a ++ c :: d :: b) [c, d] = (a.length : Int) := by
  refine Lib.index_first (i := a.length) (by simp) ?_ (fun j hj => occ_not rfl j ?_)
  · simp [Lib.occAt]
  · rw [List.getElem?_append_left hj]
    intro h
    exact ha (List.mem_of_getElem? h)
theorem index_no (a : List UInt8) (c : UInt8) (t : List UInt8) (ha : c ∉ a) : Lib.index a (c :: t) = -1 := by
  refine Lib.index_none (fun j _ => occ_not rfl j ?_)
  intro h
  exact ha (List.mem_of_getElem? h)
theorem cut_one (a b : List UInt8) (c : UInt8) (ha : c ∉ a) : Lib.cut (a ++ c :: b) [c] = (a, b, true) := by
  unfold Lib.cut
  rw [index_one a b c ha, if_pos (by omega), Int.toNat_natCast, List.take_left' rfl]
  simp
theorem cut_no (a : List UInt8) (c : UInt8) (ha : c ∉ a) : Lib.cut a [c] = (a, [], false) := by
  unfold Lib.cut
  rw [index_no a c [] ha, if_neg (by omega)]
theorem Cut_is (s sep : List UInt8) (hs : s.length < 4294967281) : strings_Cut.f (B s) (B sep) = some (B (Lib.cut s sep).1, B (Lib.cut s sep).2.1, (Lib.cut s sep).2.2) := by
  unfold strings_Cut.f
  rw [if_pos (by rw [B_size]; exact hs), B_list, B_list]
  rfl
/-- the lines -/
theorem split_more (a b : List UInt8) (ha : (13 : UInt8) ∉ a) : Lib.split (a ++ 13 :: 10 :: b) [13, 10] = a :: Lib.split b [13, 10] := by
  have h := index_two a b 13 10 ha
  unfold Lib.split
  rw [Lib.count_hit (by simp) h, Nat.add_comm]
  have hd : (a ++ 13 :: 10 :: b).drop (a.length + 2) = b := by simp
  simp only [Lib.splitK]
  rw [h, if_neg (by simp), Int.toNat_natCast, Nat.add_zero, List.take_left' rfl, show ([13, 10] : List UInt8).length = 2 from rfl, hd]
theorem split_last (a : List UInt8) (ha : (13 : UInt8) ∉ a) : Lib.split a [13, 10] = [a] := by
  unfold Lib.split
  rw [Lib.count_miss (index_no a 13 [10] ha)]
  rfl
theorem Split_is (s sep : List UInt8) (hs : s.length < 4294967281) (h1 : 1 ≤ sep.length) : strings_Split.f (B s) (B sep) = some ((Lib.split s sep).map B) := by
  unfold strings_Split.f
  rw [if_pos ⟨by rw [B_size]; exact hs, by rw [B_size]; exact h1⟩]
  congr 1
  have h := Lib.splitB_data (B sep) 0 (Lib.countB (B s) (B sep)) (B s)
  rw [B_list, B_list] at h
  have hc : Lib.countB (B s) (B sep) = Lib.count s sep := by
    show Lib.count _ _ = _
    rw [B_list, B_list]
  unfold Lib.split
  rw [← hc, ← h, List.map_map]
  conv => lhs; rw [← List.map_id (Lib.splitB (B sep) 0 (Lib.countB (B s) (B sep)) (B s))]
  apply List.map_congr_left
  intro x _
  exact (B_of x).symm
/-! bytes -/
theorem N8_B (l : List UInt8) : bytesOf (B l) = l.map (fun b => (b.toNat : Int)) := by rw [bytesOf, B_list]
theorem N8_back (l : List UInt8) : Lib.bytesOf (l.map (fun b => (b.toNat : Int))) = l := by
  unfold Lib.bytesOf
  rw [List.map_map]
  conv => rhs; rw [← List.map_id l]
  apply List.map_congr_left
  intro b _
  simp
theorem strOf_N8 (l : List UInt8) : strOfNums (l.map (fun b => (b.toNat : Int))) = B l := by
  unfold strOfNums B
  congr 2
  exact N8_back l
theorem N8_all (l : List UInt8) : ((l.map (fun b => (b.toNat : Int))).all fun x => decide (0 ≤ x ∧ x < 256)) = true := by
  rw [List.all_eq_true]
  intro x hx
  obtain ⟨b, _, rfl⟩ := List.mem_map.1 hx
  have := b.toNat_lt
  exact decide_eq_true ⟨by omega, by omega⟩
theorem Index_is (l sub : List UInt8) (hl : l.length < 4294967281) (h2 : 2 ≤ sub.length) (h3 : sub.length ≤ 100) : bytes_Index.f (l.map (fun b => (b.toNat : Int))) (sub.map (fun b => (b.toNat : Int))) = some (Lib.index l sub) := by
  unfold bytes_Index.f
  rw [if_pos ⟨N8_all l, N8_all sub, by rw [List.length_map]; exact hl, by rw [List.length_map]; exact h2, by rw [List.length_map]; omega⟩, N8_back, N8_back]
theorem Lower_is (l : List UInt8) (hl : l.length ≤ 4294967296) : head_lower.f (B l) = some (B (l.map lowB)) := by
  unfold head_lower.f
  rw [if_pos (by rw [B_size]; omega), B_list]
  rfl
theorem Trim_is (l cs : List UInt8) (hl : l.length ≤ 4294967296) (hc : cs.length ≤ 100) (ha : cs.all (fun b => decide (b.toNat < 128)) = true) : strings_Trim.f (B l) (B cs) = some (B (Lib.trimS l cs)) := by
  unfold strings_Trim.f
  rw [if_pos ⟨by rw [B_size]; omega, by rw [B_size]; omega, by rw [B_list]; exact ha⟩, B_list, B_list]
  rfl
/-! tokens -/
def alB (b : UInt8) : Bool := decide (97 ≤ b.toNat ∧ b.toNat ≤ 122 ∨ 65 ≤ b.toNat ∧ b.toNat ≤ 90 ∨ 48 ≤ b.toNat ∧ b.toNat ≤ 57)
def tokB (b : UInt8) : Bool := alB b || decide (0 ≤ Lib.indexByte [33, 35, 36, 37, 38, 39, 42, 43, 45, 46, 94, 95, 96, 124, 126] b)
def tokOk (l : List UInt8) : Bool := l.all tokB && (l != [])
theorem alnum_is (b : UInt8) : head_alnum.f (b.toNat : Int) = some (alB b) := by
  unfold head_alnum.f alB
  repeat' split
  all_goals simp only [Option.some.injEq]
  all_goals first
    | (symm; rw [decide_eq_true_eq]; omega)
    | (rw [decide_eq_decide]; omega)
    | (symm; rw [decide_eq_false_iff_not]; omega)
theorem token_loop (l : List UInt8) (hl : l.length ≤ 4294967296) : ∀ (d i : Nat), i + d = l.length → Ev (fun k => head_token.l0 k (B l) (l.length : Int) (i : Int)) ((l.drop i).all tokB && (l != [])) := by
  intro d
  induction d with
  | zero =>
    intro i hi
    refine Ev.step (fun k => by simp only [head_token.l0]; rfl) (Ev.neg (by omega) (Ev.ret ?_))
    rw [B_toList, List.drop_eq_nil_of_le (by omega)]
    simp
  | succ d ih =>
    intro i hi
    have hlt : i < l.length := by omega
    have hw := wrap_succ i (by omega)
    have hd : l.drop i = l[i] :: l.drop (i + 1) := List.drop_eq_getElem_cons hlt
    have hx : (B l).extract (i : Int).toNat ((i + 1 : Nat) : Int).toNat = B [l[i]] := by
      rw [Int.toNat_natCast, Int.toNat_natCast, B_extract, hd, Nat.add_sub_cancel_left]
      rfl
    have hi' := ih (i + 1) (by omega)
    refine Ev.step (fun k => by simp only [head_token.l0]; rfl) ?_
    refine Ev.pos (by omega) (Ev.pos (by omega) (Ev.pos (by rw [B_size]; omega) ?_))
    rw [B_bt l i hlt, hw]
    refine Ev.call (alnum_is _) ?_
    rw [hd, List.all_cons]
    cases hA : alB l[i] with
    | true =>
      refine Ev.pos rfl ?_
      have ht : tokB l[i] = true := by simp [tokB, hA]
      rw [ht, Bool.true_and]
      exact hi'
    | false =>
      refine Ev.neg (by simp) (Ev.pos (by omega) (Ev.pos (by rw [B_size]; omega) ?_))
      rw [hx]
      have hc : strings_Contains.f (⟨#[33, 35, 36, 37, 38, 39, 42, 43, 45, 46, 94, 95, 96, 124, 126]⟩ : ByteArray) (B [l[i]]) = some (tokB l[i]) := by
        unfold strings_Contains.f
        rw [if_pos (by rw [B_size]; rfl), B_list]
        simp [tokB, hA]
      refine Ev.call hc ?_
      cases ht : tokB l[i] with
      | true => exact Ev.pos rfl (by rw [Bool.true_and]; exact hi')
      | false => exact Ev.neg (by simp) (Ev.ret (by simp))
theorem token_is (l : List UInt8) (hl : l.length ≤ 4294967296) : Ev (fun k => head_token.f k (B l)) (tokOk l) := by
  unfold head_token.f
  rw [B_size]
  exact token_loop l hl l.length 0 (by omega)
/-! values -/
def blankB (b : UInt8) : Bool := decide (b.toNat = 9 ∨ b.toNat = 32)
def valB (b : UInt8) : Bool := decide ((b.toNat = 9 ∨ 32 ≤ b.toNat) ∧ b.toNat ≠ 127)
def endsOk (l : List UInt8) : Bool := match l with
  | [] => true
  | x :: r => !blankB x && !blankB ((x :: r).getLastD 0)
def valOk (l : List UInt8) : Bool := l.all valB && endsOk l
theorem blank_is (b : UInt8) : head_blank.f (b.toNat : Int) = some (blankB b) := by
  unfold head_blank.f blankB
  split
  · rename_i h
    simp only [Option.some.injEq]
    symm
    rw [decide_eq_true_eq]
    omega
  · rename_i h
    simp only [Option.some.injEq]
    rw [show ((b.toNat : Int) == 32) = decide ((b.toNat : Int) = 32) from rfl, decide_eq_decide]
    omega
theorem value_loop (l : List UInt8) (hl : l.length ≤ 4294967296) : ∀ (d i : Nat), i + d = l.length → Ev (fun k => head_value.l0 k (B l) (l.length : Int) (i : Int)) ((l.drop i).all valB && endsOk l) := by
  intro d
  induction d with
  | zero =>
    intro i hi
    refine Ev.step (fun k => by simp only [head_value.l0]; rfl) (Ev.neg (by omega) ?_)
    rw [B_toList, List.drop_eq_nil_of_le (by omega), List.all_nil, Bool.true_and]
    cases hc : l with
    | nil => exact Ev.pos rfl (Ev.ret rfl)
    | cons x r =>
      have hE : endsOk (x :: r) = (!blankB x && !blankB (l.getLastD 0)) := by rw [hc]; rfl
      rw [hE, ← hc]
      clear hE
      have h0 : 0 < l.length := by rw [hc]; simp
      have hb0 : bt (B l) 0 = (x.toNat : Int) := by
        have := B_bt l 0 h0
        simpa [hc] using this
      have hw : wrap64 (((B l).size : Int) - 1) = ((l.length - 1 : Nat) : Int) := by rw [B_size]; unfold wrap64; omega
      have hbl : bt (B l) ((l.length - 1 : Nat) : Int) = ((l.getLastD 0).toNat : Int) := by
        rw [B_bt l (l.length - 1) (by omega)]
        congr 2
        rw [List.getLastD_eq_getLast?, List.getLast?_eq_getElem?, List.getElem?_eq_getElem (by omega)]
        rfl
      refine Ev.neg (by rw [hc]; simp) (Ev.pos (by rw [B_size]; omega) ?_)
      rw [hb0]
      refine Ev.call (blank_is x) ?_
      cases hx : blankB x with
      | true => exact Ev.pos rfl (Ev.ret rfl)
      | false =>
        refine Ev.neg (by simp) ?_
        rw [hw, hbl]
        exact Ev.pos (by omega) (Ev.pos (by rw [B_size]; omega) (Ev.call (blank_is _) (Ev.ret (by simp))))
  | succ d ih =>
    intro i hi
    have hlt : i < l.length := by omega
    have hw := wrap_succ i (by omega)
    have hd : l.drop i = l[i] :: l.drop (i + 1) := List.drop_eq_getElem_cons hlt
    have hi' := ih (i + 1) (by omega)
    refine Ev.step (fun k => by simp only [head_value.l0]; rfl) ?_
    refine Ev.pos (by omega) (Ev.pos (by omega) (Ev.pos (by rw [B_size]; omega) ?_))
    rw [B_bt l i hlt, hw, hd, List.all_cons]
    cases hv : valB l[i] with
    | true =>
      have hv' : (l[i].toNat = 9 ∨ 32 ≤ l[i].toNat) ∧ l[i].toNat ≠ 127 := of_decide_eq_true hv
      rw [Bool.true_and]
      by_cases h9 : (l[i].toNat : Int) = 9
      · exact Ev.pos h9 (Ev.neg (by omega) hi')
      · exact Ev.neg h9 (Ev.neg (by omega) (Ev.neg (by omega) hi'))
    | false =>
      have hv' : ¬ ((l[i].toNat = 9 ∨ 32 ≤ l[i].toNat) ∧ l[i].toNat ≠ 127) := of_decide_eq_false hv
      rw [Bool.false_and, Bool.false_and]
      by_cases h9 : (l[i].toNat : Int) = 9
      · exact absurd hv' (by omega)
      · refine Ev.neg h9 ?_
        by_cases h32 : (l[i].toNat : Int) < 32
        · exact Ev.pos h32 (Ev.ret rfl)
        · exact Ev.neg h32 (Ev.pos (by omega) (Ev.ret rfl))
theorem value_is (l : List UInt8) (hl : l.length ≤ 4294967296) : Ev (fun k => head_value.f k (B l)) (valOk l) := by
  unfold head_value.f
  rw [B_size]
  exact value_loop l hl l.length 0 (by omega)
end Go.Proofs.YtabkdmfnafeaeaaDoor.HP
namespace Go.Proofs.YtabkdmfnafeaeaaDoor.HP
open Go.RowKit Go.Proofs.YtabkdmfnafeaeaaDoor.Q Go.Proofs.YtabkdmfnafeaeaaDoorW.PrintWords Go.Proofs.YtabkdmfnafeaeaaDoorW.PrintLast Go.Proofs.YtabkdmfnafeaeaaDoorW.PrintMore
/-! lines joined -/
def joinL : List (List UInt8) → List UInt8
  | [] => []
  | [a] => a
  | a :: b :: r => a ++ 13 :: 10 :: joinL (b :: r)
theorem split_join : ∀ (ls : List (List UInt8)), ls ≠ [] → (∀ a ∈ ls, (13 : UInt8) ∉ a) → Lib.split (joinL ls) [13, 10] = ls
  | [], h, _ => absurd rfl h
  | [a], _, h => split_last a (h a (by simp))
  | a :: b :: r, _, h => by
    show Lib.split (a ++ 13 :: 10 :: joinL (b :: r)) [13, 10] = _
    rw [split_more _ _ (h a (by simp)), split_join (b :: r) (by simp) (fun x hx => h x (by simp [hx]))]
theorem occ_first {s : List UInt8} {j : Nat} {t : List UInt8} (h : s[j]? ≠ some 13) : Lib.occAt s (13 :: t) j = false := occ_not rfl j h
theorem occ_drop (a s sub : List UInt8) (j : Nat) : Lib.occAt (a ++ s) sub (a.length + j) = Lib.occAt s sub j := by
  unfold Lib.occAt
  rw [List.drop_append, List.drop_eq_nil_of_le (by omega), List.nil_append, Nat.add_sub_cancel_left]
/-- within joined lines the end does not stand -/
theorem join_occ : ∀ (ls : List (List UInt8)), (∀ a ∈ ls, (13 : UInt8) ∉ a ∧ a ≠ []) → ∀ (z : List UInt8) (j : Nat), j < (joinL ls).length → Lib.occAt (joinL ls ++ 13 :: z) [13, 10, 13, 10] j = false
  | [], _, _, j, hj => absurd hj (by simp [joinL])
  | [a], h, z, j, hj => by
    have hj' : j < a.length := hj
    refine occ_first ?_
    show (a ++ 13 :: z)[j]? ≠ _
    rw [List.getElem?_append_left hj']
    exact fun he => (h a (by simp)).1 (List.mem_of_getElem? he)
  | a :: b :: r, h, z, j, hj => by
    have ih := join_occ (b :: r) (fun x hx => h x (by simp [hx])) z
    have hb := h b (by simp)
    have hne : ∃ x t, joinL (b :: r) = x :: t ∧ x ≠ 13 := by
      rcases hb2 : b with _ | ⟨x, t⟩
      · exact absurd hb2 hb.2
      · have hx : x ≠ 13 := fun hx => hb.1 (by rw [hb2, hx]; simp)
        cases r with
        | nil => exact ⟨x, t, rfl, hx⟩
        | cons c r => exact ⟨x, _, rfl, hx⟩
    obtain ⟨x, t, hx, hx13⟩ := hne
    have e : joinL (a :: b :: r) ++ 13 :: z = a ++ 13 :: 10 :: (joinL (b :: r) ++ 13 :: z) := by simp [joinL]
    rw [e]
    rcases Nat.lt_or_ge j a.length with h1 | h1
    · refine occ_first ?_
      rw [List.getElem?_append_left h1]
      exact fun he => (h a (by simp)).1 (List.mem_of_getElem? he)
    · obtain ⟨d, rfl⟩ : ∃ d, j = a.length + d := ⟨j - a.length, by omega⟩
      rw [occ_drop]
      rcases d with _ | _ | d
      · rw [hx]
        have hb2 : ((13 : UInt8) == x) = false := by simpa using fun h : (13 : UInt8) = x => hx13 h.symm
        show ([13, 10, 13, 10] : List UInt8).isPrefixOf (13 :: 10 :: x :: (t ++ 13 :: z)) = false
        simp only [List.isPrefixOf, hb2, Bool.false_and, Bool.and_false]
      · rw [hx]
        rfl
      · have e2 : Lib.occAt (13 :: 10 :: (joinL (b :: r) ++ 13 :: z)) [13, 10, 13, 10] (d + 1 + 1) = Lib.occAt (joinL (b :: r) ++ 13 :: z) [13, 10, 13, 10] d := rfl
        rw [e2]
        refine ih d ?_
        simp [joinL] at hj
        omega
theorem join_index (ls : List (List UInt8)) (h : ∀ a ∈ ls, (13 : UInt8) ∉ a ∧ a ≠ []) (z : List UInt8) : Lib.index (joinL ls ++ [13, 10, 13, 10] ++ z) [13, 10, 13, 10] = ((joinL ls).length : Int) := by
  have e : joinL ls ++ [13, 10, 13, 10] ++ z = joinL ls ++ 13 :: (10 :: 13 :: 10 :: z) := by simp
  rw [e]
  refine Lib.index_first (i := (joinL ls).length) (by simp) ?_ (fun j hj => join_occ ls h _ j hj)
  have := occ_drop (joinL ls) (13 :: (10 :: 13 :: 10 :: z)) [13, 10, 13, 10] 0
  rw [Nat.add_zero] at this
  rw [this]
  simp [Lib.occAt, List.isPrefixOf]
theorem join_flat : ∀ (ls : List (List UInt8)), ls ≠ [] → joinL ls ++ [13, 10] = ls.flatMap (fun a => a ++ [13, 10])
  | [], h => absurd rfl h
  | [a], _ => by simp [joinL]
  | a :: b :: r, _ => by
    have ih := join_flat (b :: r) (by simp)
    rw [List.flatMap_cons, ← ih]
    simp [joinL]
/-! fields -/
def hostL : List UInt8 := [104, 111, 115, 116]
def verL : List UInt8 := [72, 84, 84, 80, 47, 49, 46, 49]
def lineOf (f : List UInt8 × List UInt8) : List UInt8 := f.1 ++ 58 :: f.2
def low (f : List UInt8 × List UInt8) : List UInt8 := f.1.map lowB
def tv (f : List UInt8 × List UInt8) : List UInt8 := Lib.trimS f.2 [9, 32]
def fld (f : List UInt8 × List UInt8) : S38 := ⟨B (low f), B (tv f)⟩
def good (f : List UInt8 × List UInt8) : Prop := (lineOf f).length ≤ 1000000000 ∧ tokOk f.1 = true ∧ valOk (tv f) = true ∧ (13 : UInt8) ∉ f.2
theorem tok_no {n : List UInt8} (h : tokOk n = true) (c : UInt8) (hc : tokB c = false) : c ∉ n := by
  intro hm
  unfold tokOk at h
  rw [Bool.and_eq_true] at h
  have := (List.all_eq_true.1 h.1) c hm
  rw [hc] at this
  cases this
theorem trim_le (l cs : List UInt8) : (Lib.trimS l cs).length ≤ l.length := by
  have dw : ∀ (p : UInt8 → Bool) (l : List UInt8), (l.dropWhile p).length ≤ l.length := fun p l => (List.dropWhile_suffix p).length_le
  unfold Lib.trimS Lib.trimRightS Lib.trimLeftS
  first
    | (have h1 := dw (cs.contains ·) l; have h2 := dw (cs.contains ·) (l.dropWhile (cs.contains ·)).reverse; have h3 := dw (cs.contains ·) l.reverse; have h4 := dw (cs.contains ·) (l.reverse.dropWhile (cs.contains ·)).reverse; simp only [List.length_reverse] at *; omega)
def hosts (fs : List (List UInt8 × List UInt8)) : Nat := fs.countP (fun f => low f == hostL)
def hostOf (hx : List UInt8 → ByteArray) : ByteArray → List (List UInt8 × List UInt8) → ByteArray
  | h, [] => h
  | h, f :: fs => hostOf hx (if low f = hostL then hx (tv f) else h) fs
abbrev HR := ByteArray × ByteArray × ByteArray × ByteArray × List S38 × Int × Int
def errR (e : Int) : HR := (B [], B [], B [], B [], [], 0, e)
def fin (E : Int) (m p q hh : ByteArray) (n : Nat) (ho : ByteArray) (fl : List S38) : HR :=
  if n = 1 then (if 32 < fl.length then errR 6 else (m, p, q, if hh.toList = [] then ho else hh, fl, E + 4, 0)) else errR 4
set_option maxHeartbeats 4000000 in
theorem loop_is (E : Int) (hE : 0 ≤ E ∧ E ≤ 100000) (m p q hh : ByteArray) (hx : List UInt8 → ByteArray) (lines : List ByteArray) (hll : lines.length ≤ 100000) :
    ∀ (fs : List (List UInt8 × List UInt8)) (pre : List ByteArray) (n : Nat) (ho : ByteArray) (acc : List S38),
      lines = pre ++ fs.map (fun f => B (lineOf f)) → (∀ f ∈ fs, good f) → (∀ f ∈ fs, low f = hostL → Ev (fun k => head_Host.f k (B (tv f))) (hx (tv f), true)) →
      n ≤ pre.length → acc.length ≤ pre.length →
      Ev (fun k => head_Parse.l0 k E lines (n : Int) (pre.length : Int) ho m p q hh acc) (fin E m p q hh (n + hosts fs) (hostOf hx ho fs) (acc ++ fs.map fld)) := by
  intro fs
  induction fs with
  | nil =>
    intro pre n ho acc hl _ _ hn ha
    have hw : wrap64 (E + 4) = E + 4 := by unfold wrap64; omega
    rw [List.map_nil, List.append_nil] at hl
    subst hl
    refine Ev.step (fun k => by simp only [head_Parse.l0]; rfl) (Ev.neg (by omega) ?_)
    rw [show hosts [] = 0 from rfl, Nat.add_zero, List.map_nil, List.append_nil, hw]
    show Ev _ (fin E m p q hh n ho acc)
    unfold fin
    by_cases h1 : n = 1
    · rw [if_pos h1]
      refine Ev.pos (by omega) ?_
      by_cases h2 : 32 < acc.length
      · rw [if_pos h2]
        exact Ev.pos (by omega) (Ev.ret rfl)
      · rw [if_neg h2]
        refine Ev.neg (by omega) ?_
        by_cases h3 : hh.toList = []
        · rw [if_pos h3]
          simp only [if_pos h3]
          exact Ev.ret rfl
        · rw [if_neg h3]
          simp only [if_neg h3]
          exact Ev.ret rfl
    · rw [if_neg h1]
      exact Ev.neg (by omega) (Ev.ret rfl)
  | cons f fs ih =>
    intro pre n ho acc hl hg hh' hn ha
    obtain ⟨g1, g2, g3, g4⟩ := hg f (by simp)
    have hlen : pre.length + (fs.length + 1) = lines.length := by rw [hl]; simp
    have hrd : rdOf ByteArray.empty lines (pre.length : Int) = B (lineOf f) := by
      rw [hl]
      simp [rdOf]
    have l1 : f.1.length + 1 + f.2.length ≤ 1000000000 := by
      have := g1
      simp [lineOf] at this
      omega
    have c1 : strings_Cut.f (B (lineOf f)) (⟨#[58]⟩ : ByteArray) = some (B f.1, B f.2, true) := by
      have := Cut_is (lineOf f) [58] (by omega)
      rw [show Lib.cut (lineOf f) [58] = (f.1, f.2, true) from cut_one f.1 f.2 58 (tok_no g2 58 (by decide))] at this
      exact this
    have t1 : strings_Trim.f (B f.2) (⟨#[9, 32]⟩ : ByteArray) = some (B (tv f)) := Trim_is f.2 [9, 32] (by omega) (by decide) (by decide)
    have tk := token_is f.1 (by omega)
    rw [g2] at tk
    have htl := trim_le f.2 [9, 32]
    have vl := value_is (tv f) (by unfold tv; omega)
    rw [g3] at vl
    have lo : head_lower.f (B f.1) = some (B (low f)) := Lower_is f.1 (by omega)
    have hw1 : wrap64 ((pre.length : Int) + 1) = ((pre ++ [B (lineOf f)]).length : Int) := by
      rw [List.length_append]
      unfold wrap64
      simp
      omega
    have hw2 : wrap64 ((n : Int) + 1) = ((n + 1 : Nat) : Int) := by unfold wrap64; omega
    have hl' : lines = (pre ++ [B (lineOf f)]) ++ fs.map (fun f => B (lineOf f)) := by rw [hl]; simp
    have hg' : ∀ x ∈ fs, good x := fun x hx => hg x (by simp [hx])
    have hh2 : ∀ x ∈ fs, low x = hostL → Ev (fun k => head_Host.f k (B (tv x))) (hx (tv x), true) := fun x hx' => hh' x (by simp [hx'])
    have hp : (pre ++ [B (lineOf f)]).length = pre.length + 1 := by simp
    have hac2 : (acc ++ [fld f]).length ≤ (pre ++ [B (lineOf f)]).length := by rw [hp, List.length_append]; exact Nat.succ_le_succ ha
    have hn1 : n + 1 ≤ (pre ++ [B (lineOf f)]).length := by rw [hp]; exact Nat.succ_le_succ hn
    have hn0 : n ≤ (pre ++ [B (lineOf f)]).length := by rw [hp]; exact Nat.le_succ_of_le hn
    have hac : acc ++ (f :: fs).map fld = (acc ++ [fld f]) ++ fs.map fld := by simp
    refine Ev.step (fun k => by simp only [head_Parse.l0]; rfl) ?_
    refine Ev.pos (by omega) (Ev.pos (by omega) ?_)
    rw [hrd]
    refine Ev.call c1 (Ev.call t1 (Ev.pos rfl (Ev.bind tk (Ev.pos rfl (Ev.bind vl ?_)))))
    refine Ev.step (fun k => by simp only [head_Parse.j2]; rfl) ?_
    refine Ev.neg (by decide) (Ev.call lo (Ev.pos (by omega) (Ev.put (Ev.call lo ?_))))
    rw [hac]
    by_cases hq : low f = hostL
    · refine Ev.pos (by rw [B_toList]; exact hq) (Ev.bind (hh' f (by simp) hq) (Ev.pos rfl ?_))
      have h := ih (pre ++ [B (lineOf f)]) (n + 1) (hx (tv f)) (acc ++ [fld f]) hl' hg' hh2 hn1 hac2
      rw [show hostOf hx ho (f :: fs) = hostOf hx (hx (tv f)) fs by simp [hostOf, hq], show n + hosts (f :: fs) = n + 1 + hosts fs by simp [hosts, hq]; omega]
      rw [hw1, hw2]
      exact h
    · refine Ev.neg (by rw [B_toList]; exact hq) ?_
      have h := ih (pre ++ [B (lineOf f)]) n ho (acc ++ [fld f]) hl' hg' hh2 hn0 hac2
      rw [show hostOf hx ho (f :: fs) = hostOf hx ho fs by simp [hostOf, hq], show n + hosts (f :: fs) = n + hosts fs by simp [hosts, hq]]
      rw [hw1]
      exact h
def firstL (m t : List UInt8) : List UInt8 := m ++ 32 :: (t ++ 32 :: verL)
def linesL (m t : List UInt8) (fs : List (List UInt8 × List UInt8)) : List (List UInt8) := firstL m t :: fs.map lineOf
def headL (m t : List UInt8) (fs : List (List UInt8 × List UInt8)) : List UInt8 := joinL (linesL m t fs) ++ [13, 10, 13, 10]
theorem lines_ok (m t : List UInt8) (fs : List (List UInt8 × List UInt8)) (hm : tokOk m = true) (ht : (13 : UInt8) ∉ t) (hg : ∀ f ∈ fs, good f) : ∀ a ∈ linesL m t fs, (13 : UInt8) ∉ a ∧ a ≠ [] := by
  intro a ha
  rcases List.mem_cons.1 ha with rfl | ha
  · have h13 := tok_no hm 13 (by decide)
    refine ⟨?_, by simp [firstL]⟩
    simp [firstL, verL, h13, ht]
  · obtain ⟨f, hf, rfl⟩ := List.mem_map.1 ha
    obtain ⟨g1, g2, g3, g4⟩ := hg f hf
    have h13 := tok_no g2 13 (by decide)
    exact ⟨by simp [lineOf, h13, g4], by simp [lineOf]⟩
theorem head_flat (m t : List UInt8) (fs : List (List UInt8 × List UInt8)) : headL m t fs = (linesL m t fs).flatMap (fun a => a ++ [13, 10]) ++ [13, 10] := by
  rw [← join_flat _ (by simp [linesL])]
  simp [headL]
/-- THE LAW: what Parse tells of well-formed lines -/
theorem parse_is (m t : List UInt8) (p q hh : ByteArray) (fs : List (List UInt8 × List UInt8)) (hx : List UInt8 → ByteArray) (z : List UInt8) (hz : z.length ≤ 1000000000)
    (hm : tokOk m = true) (ht13 : (13 : UInt8) ∉ t) (ht32 : (32 : UInt8) ∉ t) (ht : Ev (fun k => head_target.f k (B t)) (p, q, hh, true))
    (hg : ∀ f ∈ fs, good f) (hh' : ∀ f ∈ fs, low f = hostL → Ev (fun k => head_Host.f k (B (tv f))) (hx (tv f), true)) (hL : (headL m t fs).length ≤ 2048) (hn : fs.length ≤ 5000) :
    Ev (fun k => head_Parse.f k (bytesOf (B (headL m t fs ++ z)))) (fin ((joinL (linesL m t fs)).length : Int) (B m) p q hh (hosts fs) (hostOf hx (B []) fs) (fs.map fld)) := by
  have hok := lines_ok m t fs hm ht13 hg
  have hlen : (headL m t fs).length = (joinL (linesL m t fs)).length + 4 := by simp [headL]
  generalize hN : (headL m t fs ++ z).length = N
  have hN2 : N = (headL m t fs).length + z.length := by rw [← hN, List.length_append]
  have hl : ((headL m t fs ++ z).map (fun b => (b.toNat : Int))).length = N := by rw [List.length_map, hN]
  obtain ⟨M, hM, hM1, hM2⟩ : ∃ M : Nat, mn (N : Int) 2048 = (M : Int) ∧ M ≤ N ∧ (headL m t fs).length ≤ M := by
    unfold mn
    split
    · exact ⟨2048, rfl, by omega, by omega⟩
    · exact ⟨N, rfl, Nat.le_refl _, by omega⟩
  unfold head_Parse.f
  rw [N8_B, hl, hM]
  refine Ev.pos (by omega) (Ev.pos (by omega) ?_)
  rw [Int.toNat_natCast, ← List.map_take]
  have htk : (headL m t fs ++ z).take M = joinL (linesL m t fs) ++ [13, 10, 13, 10] ++ z.take (M - (headL m t fs).length) := by
    rw [List.take_append, List.take_of_length_le hM2]
    rfl
  have hix : bytes_Index.f (((headL m t fs ++ z).take M).map (fun b => (b.toNat : Int))) ([13, 10, 13, 10] : List Int) = some ((joinL (linesL m t fs)).length : Int) := by
    rw [show ([13, 10, 13, 10] : List Int) = ([13, 10, 13, 10] : List UInt8).map (fun b => (b.toNat : Int)) from rfl, Index_is _ _ (by rw [List.length_take]; omega) (by decide) (by decide), htk, join_index _ hok]
  refine Ev.call hix (Ev.neg (by omega) (Ev.pos (by omega) (Ev.pos (by omega) ?_)))
  rw [Int.toNat_natCast, ← List.map_take, strOf_N8]
  have htj : (headL m t fs ++ z).take (joinL (linesL m t fs)).length = joinL (linesL m t fs) := by
    unfold headL
    rw [List.append_assoc, List.take_left]
  rw [htj]
  have hsp : strings_Split.f (B (joinL (linesL m t fs))) (⟨#[13, 10]⟩ : ByteArray) = some (B (firstL m t) :: fs.map (fun f => B (lineOf f))) := by
    have := Split_is (joinL (linesL m t fs)) [13, 10] (by omega) (by decide)
    rw [split_join _ (by simp [linesL]) (fun a ha => (hok a ha).1)] at this
    rw [show (linesL m t fs).map B = B (firstL m t) :: fs.map (fun f => B (lineOf f)) by simp [linesL]] at this
    exact this
  have hfl : (firstL m t).length ≤ (joinL (linesL m t fs)).length := by
    unfold linesL
    cases fs.map lineOf with
    | nil => exact Nat.le_refl _
    | cons b r => simp [joinL]
  have hfl2 : (t ++ 32 :: verL).length ≤ (firstL m t).length := by simp [firstL]; omega
  have c1 : strings_Cut.f (B (firstL m t)) (⟨#[32]⟩ : ByteArray) = some (B m, B (t ++ 32 :: verL), true) := by
    have := Cut_is (firstL m t) [32] (by omega)
    rw [show Lib.cut (firstL m t) [32] = (m, t ++ 32 :: verL, true) from cut_one _ _ 32 (tok_no hm 32 (by decide))] at this
    exact this
  have c2 : strings_Cut.f (B (t ++ 32 :: verL)) (⟨#[32]⟩ : ByteArray) = some (B t, B verL, true) := by
    have := Cut_is (t ++ 32 :: verL) [32] (by omega)
    rw [cut_one _ _ 32 ht32] at this
    exact this
  have hml : m.length ≤ (firstL m t).length := by simp [firstL]
  have tk := token_is m (by omega)
  rw [hm] at tk
  refine Ev.call hsp (Ev.pos (by simp) (Ev.call c1 (Ev.call c2 (Ev.bind ht (Ev.pos rfl (Ev.bind tk (Ev.pos rfl ?_)))))))
  refine Ev.step (fun k => by simp only [head_Parse.j0]; rfl) ?_
  refine Ev.neg (by rw [B_toList]; decide) ?_
  have h := loop_is ((joinL (linesL m t fs)).length : Int) ⟨by omega, by omega⟩ (B m) p q hh hx (B (firstL m t) :: fs.map (fun f => B (lineOf f))) (by simp; omega) fs [B (firstL m t)] 0 (B []) [] rfl hg hh' (by omega) (by simp)
  rw [Nat.zero_add, List.nil_append] at h
  exact h
end Go.Proofs.YtabkdmfnafeaeaaDoor.HP
namespace Go.Proofs.YtabkdmfnafeaeaaDoor.HP
open Go.RowKit Go.Proofs.YtabkdmfnafeaeaaDoor.Q Go.Proofs.YtabkdmfnafeaeaaDoorW.PrintWords Go.Proofs.YtabkdmfnafeaeaaDoorW.PrintLast Go.Proofs.YtabkdmfnafeaeaaDoorW.PrintMore
/-! paths and queries -/
def hexB (b : UInt8) : Bool := decide (48 ≤ b.toNat ∧ b.toNat ≤ 57 ∨ 97 ≤ b.toNat ∧ b.toNat ≤ 102 ∨ 65 ≤ b.toNat ∧ b.toNat ≤ 70)
def pchB (b : UInt8) : Bool := alB b || decide (0 ≤ Lib.indexByte [47, 45, 46, 95, 126, 33, 36, 38, 39, 40, 41, 42, 43, 44, 59, 61, 58, 64] b)
def two : List UInt8 → Bool
  | a :: b :: _ => hexB a && hexB b
  | _ => false
theorem two_short : ∀ (l : List UInt8), l.length < 2 → two l = false
  | [], _ => rfl
  | [_], _ => rfl
  | _ :: _ :: _, h => by simp at h; omega
def atB (q : Bool) : List UInt8 → Bool
  | [] => true
  | c :: r => if c.toNat = 37 then two r else if c.toNat = 63 ∧ q = true then true else pchB c
theorem atB_cons (q : Bool) (c : UInt8) (r : List UInt8) : atB q (c :: r) = if c.toNat = 37 then two r else if c.toNat = 63 ∧ q = true then true else pchB c := rfl
def suchL (q : Bool) : List UInt8 → Bool
  | [] => true
  | c :: r => atB q (c :: r) && suchL q r
theorem hex_is (b : UInt8) : head_hex.f (b.toNat : Int) = some (hexB b) := by
  unfold head_hex.f hexB
  repeat' split
  all_goals simp only [Option.some.injEq]
  all_goals first
    | (symm; rw [decide_eq_true_eq]; omega)
    | (rw [decide_eq_decide]; omega)
    | (symm; rw [decide_eq_false_iff_not]; omega)
theorem such_loop (q : Bool) (l : List UInt8) (hl : l.length ≤ 4294967296) : ∀ (d i : Nat), i + d = l.length → Ev (fun k => head_such.l0 k (B l) q (i : Int)) (suchL q (l.drop i)) := by
  intro d
  induction d with
  | zero =>
    intro i hi
    refine Ev.step (fun k => by simp only [head_such.l0]; rfl) (Ev.neg (by rw [B_size]; omega) (Ev.ret ?_))
    rw [List.drop_eq_nil_of_le (by omega)]
    rfl
  | succ d ih =>
    intro i hi
    have hlt : i < l.length := by omega
    have hw := wrap_succ i (by omega)
    have hw2 : wrap64 ((i : Int) + 2) = ((i + 2 : Nat) : Int) := by unfold wrap64; omega
    have hd : l.drop i = l[i] :: l.drop (i + 1) := List.drop_eq_getElem_cons hlt
    have hi' := ih (i + 1) (by omega)
    have hx : (B l).extract (i : Int).toNat ((i + 1 : Nat) : Int).toNat = B [l[i]] := by
      rw [Int.toNat_natCast, Int.toNat_natCast, B_extract, hd, Nat.add_sub_cancel_left]
      rfl
    have hc : strings_Contains.f (⟨#[47, 45, 46, 95, 126, 33, 36, 38, 39, 40, 41, 42, 43, 44, 59, 61, 58, 64]⟩ : ByteArray) (B [l[i]]) = some (decide (0 ≤ Lib.indexByte [47, 45, 46, 95, 126, 33, 36, 38, 39, 40, 41, 42, 43, 44, 59, 61, 58, 64] l[i])) := by
      unfold strings_Contains.f
      rw [if_pos (by rw [B_size]; rfl), B_list]
      rfl
    have hws : wrap64 (((B l).size : Int) - (i : Int)) = ((l.length - i : Nat) : Int) := by rw [B_size]; unfold wrap64; omega
    rw [hd]
    show Ev _ (atB q (l[i] :: l.drop (i + 1)) && suchL q (l.drop (i + 1)))
    have hJ2 : l[i].toNat ≠ 37 → ¬ (l[i].toNat = 63 ∧ q = true) → Ev (fun k => head_such.j2 k (B l) q (i : Int) (l[i].toNat : Int)) (atB q (l[i] :: l.drop (i + 1)) && suchL q (l.drop (i + 1))) := by
      intro h37 h63
      refine Ev.step (fun k => by simp only [head_such.j2]; rfl) ?_
      refine Ev.call (alnum_is _) ?_
      have hat : atB q (l[i] :: l.drop (i + 1)) = pchB l[i] := by
        rw [atB_cons, if_neg h37, if_neg h63]
      rw [hat, hw]
      cases hA : alB l[i] with
      | true =>
        have hp : pchB l[i] = true := by simp [pchB, hA]
        rw [hp, Bool.true_and]
        exact Ev.pos rfl hi'
      | false =>
        refine Ev.neg (by simp) (Ev.pos (by omega) (Ev.pos (by omega) (Ev.pos (by rw [B_size]; omega) ?_)))
        rw [hx]
        refine Ev.call hc ?_
        cases hD : decide (0 ≤ Lib.indexByte [47, 45, 46, 95, 126, 33, 36, 38, 39, 40, 41, 42, 43, 44, 59, 61, 58, 64] l[i]) with
        | true =>
          have hp : pchB l[i] = true := by simp only [pchB, hD, Bool.or_true]
          rw [hp, Bool.true_and]
          exact Ev.pos rfl hi'
        | false =>
          have hp : pchB l[i] = false := by simp only [pchB, hA, hD, Bool.or_false]
          rw [hp, Bool.false_and]
          exact Ev.neg (by simp) (Ev.ret rfl)
    refine Ev.step (fun k => by simp only [head_such.l0]; rfl) ?_
    refine Ev.pos (by rw [B_size]; omega) (Ev.pos (by omega) ?_)
    rw [B_bt l i hlt]
    by_cases h37 : l[i].toNat = 37
    · refine Ev.pos (by omega) ?_
      rw [hws]
      have hat : atB q (l[i] :: l.drop (i + 1)) = two (l.drop (i + 1)) := by
        rw [atB_cons, if_pos h37]
      rw [hat]
      by_cases h3 : l.length - i < 3
      · have hF : two (l.drop (i + 1)) = false := two_short _ (by rw [List.length_drop]; omega)
        rw [hF, Bool.false_and]
        refine Ev.pos (by omega) ?_
        refine Ev.step (fun k => by simp only [head_such.j1]; rfl) ?_
        exact Ev.pos (by trivial) (Ev.ret rfl)
      · have h1 : i + 1 < l.length := by omega
        have h2 : i + 2 < l.length := by omega
        have hd1 : l.drop (i + 1) = l[i + 1] :: l[i + 2] :: l.drop (i + 3) := by
          rw [List.drop_eq_getElem_cons h1, List.drop_eq_getElem_cons h2]
        have hM : two (l.drop (i + 1)) = (hexB l[i + 1] && hexB l[i + 2]) := by rw [hd1]; rfl
        rw [hM, hw, hw2]
        refine Ev.neg (by omega) (Ev.pos (by omega) (Ev.pos (by rw [B_size]; omega) ?_))
        rw [B_bt l (i + 1) h1]
        refine Ev.call (hex_is _) ?_
        cases hA : hexB l[i + 1] with
        | false =>
          refine Ev.neg (by simp) ?_
          rw [Bool.false_and, Bool.false_and]
          refine Ev.step (fun k => by simp only [head_such.j1]; rfl) ?_
          exact Ev.pos (by trivial) (Ev.ret rfl)
        | true =>
          refine Ev.pos rfl (Ev.pos (by omega) (Ev.pos (by rw [B_size]; omega) ?_))
          rw [B_bt l (i + 2) h2]
          refine Ev.call (hex_is _) ?_
          cases hA2 : hexB l[i + 2] with
          | false =>
            rw [Bool.and_false, Bool.false_and]
            refine Ev.step (fun k => by simp only [head_such.j1]; rfl) ?_
            exact Ev.pos (by trivial) (Ev.ret rfl)
          | true =>
            rw [Bool.and_true, Bool.true_and]
            refine Ev.step (fun k => by simp only [head_such.j1]; rfl) (Ev.neg (by decide) ?_)
            rw [hw]
            exact hi'
    · refine Ev.neg (by omega) ?_
      by_cases h63 : l[i].toNat = 63
      · refine Ev.pos (by omega) ?_
        by_cases hq : q = true
        · refine Ev.pos hq ?_
          have hat : atB q (l[i] :: l.drop (i + 1)) = true := by
            rw [atB_cons, if_neg h37, if_pos ⟨h63, hq⟩]
          rw [hat, Bool.true_and, hw]
          exact hi'
        · exact Ev.neg hq (hJ2 h37 (fun h => hq h.2))
      · exact Ev.neg (by omega) (hJ2 h37 (fun h => h63 h.1))
theorem such_is (q : Bool) (l : List UInt8) (hl : l.length ≤ 4294967296) : Ev (fun k => head_such.f k (B l) q) (suchL q l) := such_loop q l hl l.length 0 (by omega)
def pathL (l : List UInt8) : Bool := if Lib.hasPrefix l [47] = true then suchL false l else false
theorem path_is (l : List UInt8) (hl : l.length ≤ 4294967296) : Ev (fun k => head_path.f k (B l)) (pathL l) := by
  have hp : strings_HasPrefix.f (B l) (⟨#[47]⟩ : ByteArray) = some (Lib.hasPrefix l [47]) := by
    unfold strings_HasPrefix.f
    rw [B_list]
  unfold head_path.f pathL
  refine Ev.call hp ?_
  by_cases h : Lib.hasPrefix l [47] = true
  · rw [if_pos h]
    exact Ev.pos h (Ev.bind (such_is false l hl) (Ev.ret rfl))
  · rw [if_neg h]
    exact Ev.neg h (Ev.ret rfl)
theorem such_mem (q : Bool) : ∀ (l : List UInt8), suchL q l = true → ∀ c ∈ l, c.toNat = 37 ∨ (c.toNat = 63 ∧ q = true) ∨ pchB c = true
  | [], _, c, hc => by simp at hc
  | x :: r, h, c, hc => by
    have h' : (atB q (x :: r) && suchL q r) = true := h
    rw [Bool.and_eq_true] at h'
    rcases List.mem_cons.1 hc with rfl | hc
    · have ha : atB q (c :: r) = true := h'.1
      rw [atB_cons] at ha
      by_cases h37 : c.toNat = 37
      · exact .inl h37
      · rw [if_neg h37] at ha
        by_cases h63 : c.toNat = 63 ∧ q = true
        · exact .inr (.inl h63)
        · rw [if_neg h63] at ha
          exact .inr (.inr ha)
    · exact such_mem q r h'.2 c hc
theorem such_no (q : Bool) (l : List UInt8) (h : suchL q l = true) (c : UInt8) (h1 : c.toNat ≠ 37) (h2 : ¬ (c.toNat = 63 ∧ q = true)) (h3 : pchB c = false) : c ∉ l := by
  intro hc
  rcases such_mem q l h c hc with h' | h' | h'
  · exact h1 h'
  · exact h2 h'
  · rw [h3] at h'
    cases h'
theorem path_such {l : List UInt8} (h : pathL l = true) : suchL false l = true ∧ ∃ r, l = 47 :: r := by
  unfold pathL at h
  split at h
  · rename_i hp
    refine ⟨h, ?_⟩
    cases l with
    | nil => simp [Lib.hasPrefix] at hp
    | cons x r =>
      have : (47 : UInt8) = x := by simpa [Lib.hasPrefix, List.isPrefixOf] using hp
      exact ⟨r, by rw [← this]⟩
  · cases h
def tgt (p q : List UInt8) : List UInt8 := p ++ (if q = [] then [] else 63 :: q)
theorem target_is (p q : List UInt8) (hp : pathL p = true) (hq : suchL true q = true) (hl : p.length + q.length ≤ 1000000000) : Ev (fun k => head_target.f k (B (tgt p q))) (B p, B q, B [], true) := by
  obtain ⟨hs, r, hr⟩ := path_such hp
  have h63 : (63 : UInt8) ∉ p := such_no false p hs 63 (by decide) (by simp) (by decide)
  have hc : strings_Cut.f (B (tgt p q)) (⟨#[63]⟩ : ByteArray) = some (B p, B q, decide (q ≠ [])) := by
    have hle : (tgt p q).length < 4294967281 := by
      unfold tgt
      split <;> simp <;> omega
    have := Cut_is (tgt p q) [63] hle
    by_cases h : q = []
    · subst h
      rw [show tgt p [] = p by simp [tgt]] at this ⊢
      rw [cut_no p 63 h63] at this
      exact this
    · rw [show tgt p q = p ++ 63 :: q by simp [tgt, h]] at this ⊢
      rw [cut_one p q 63 h63] at this
      rw [show (⟨#[63]⟩ : ByteArray) = B [63] from rfl, this]
      simp [h]
  have hx : strings_CutPrefix.f (B p) (⟨#[104, 116, 116, 112, 58, 47, 47]⟩ : ByteArray) = some (B p, false) := by
    unfold strings_CutPrefix.f
    have hf : Lib.hasPrefix (B p).data.toList (⟨#[104, 116, 116, 112, 58, 47, 47]⟩ : ByteArray).data.toList = false := by
      rw [B_list, hr]
      rfl
    unfold Lib.trimPrefix
    rw [hf, if_neg (by simp), B_list]
    rfl
  unfold head_target.f
  refine Ev.call hc (Ev.call hx (Ev.neg (by simp) (Ev.bind (path_is p (by omega)) ?_)))
  rw [hp]
  refine Ev.pos rfl (Ev.bind (such_is true q (by omega)) ?_)
  rw [hq]
  exact Ev.ret rfl
/-! values, once more -/
theorem drop_head (p : UInt8 → Bool) (x : UInt8) (r : List UInt8) (h : p x = false) : (x :: r).dropWhile p = x :: r := by simp [h]
theorem val_no {v : List UInt8} (h : valOk v = true) (c : UInt8) (hc : valB c = false) : c ∉ v := by
  intro hm
  unfold valOk at h
  rw [Bool.and_eq_true] at h
  have := (List.all_eq_true.1 h.1) c hm
  rw [hc] at this
  cases this
theorem splitK_len (sub : List UInt8) : ∀ (k : Nat) (s : List UInt8), (Lib.splitK sub 0 k s).length ≤ k + 1 ∧ ∀ p ∈ Lib.splitK sub 0 k s, p.length ≤ s.length := by
  intro k
  induction k with
  | zero => intro s; simp [Lib.splitK]
  | succ k ih =>
    intro s
    simp only [Lib.splitK]
    split
    · simp
    · have h := ih (s.drop ((Lib.index s sub).toNat + sub.length))
      refine ⟨by simp only [List.length_cons]; omega, ?_⟩
      intro p hp
      rcases List.mem_cons.1 hp with rfl | hp
      · simp
        omega
      · have := h.2 p hp
        rw [List.length_drop] at this
        omega
theorem countFrom_le (sub : List UInt8) : ∀ (k : Nat) (s : List UInt8), Lib.countFrom sub k s ≤ k
  | 0, _ => Nat.le_refl _
  | k + 1, s => by
    unfold Lib.countFrom
    split
    · omega
    · have := countFrom_le sub k (s.drop ((Lib.index s sub).toNat + sub.length))
      omega
theorem split_len (s sub : List UInt8) : (Lib.split s sub).length ≤ s.length + 2 ∧ ∀ p ∈ Lib.split s sub, p.length ≤ s.length := by
  have h1 := splitK_len sub (Lib.count s sub) s
  have h2 : Lib.count s sub ≤ s.length + 1 := countFrom_le sub _ s
  unfold Lib.split
  exact ⟨by omega, h1.2⟩
end Go.Proofs.YtabkdmfnafeaeaaDoor.HP
namespace Go.Proofs.YtabkdmfnafeaeaaDoor.HP
open Go.RowKit Go.Proofs.YtabkdmfnafeaeaaDoor.Q Go.Proofs.YtabkdmfnafeaeaaDoorW.PrintWords Go.Proofs.YtabkdmfnafeaeaaDoorW.PrintLast Go.Proofs.YtabkdmfnafeaeaaDoorW.PrintMore
theorem Ev.res {α : Type} {g : Nat → Option α} {a r : α} (h : Ev g a) (e : a = r) : Ev g r := e ▸ h
def hbB (b : UInt8) : Bool := alB b || decide (b.toNat = 45)
def partOk (p : List UInt8) : Bool := p.all hbB && (p != [])
def hostS (l : List UInt8) : List UInt8 × Bool :=
  if (Lib.cut l [58]).2.1.all digB = true ∧ (Lib.cut l [58]).2.1.length ≤ 5 ∧ (Lib.cut l [58]).1.length ≤ 64 ∧ (Lib.split (Lib.cut l [58]).1 [46]).all partOk = true then ((Lib.cut l [58]).1.map lowB, true) else ([], false)
def hostR (l : List UInt8) : ByteArray × Bool := (B (hostS l).1, (hostS l).2)
theorem hostP_is (x4 : ByteArray) (parts : List ByteArray) (n i : Int) (p : List UInt8) (hl : p.length ≤ 4294967296) (r : ByteArray × Bool)
    (h : Ev (fun k => head_HostX.l0 k x4 parts n (wrap64 (i + 1))) r) : ∀ (d j : Nat), j + d = p.length → Ev (fun k => head_HostX.l1 k x4 (B p) parts n i (p.length : Int) (j : Int)) (if ((p.drop j).all hbB && (p != [])) = true then r else (B [], false)) := by
  intro d
  induction d with
  | zero =>
    intro j hj
    rw [List.drop_eq_nil_of_le (by omega), List.all_nil, Bool.true_and]
    by_cases hp : p = []
    · rw [if_neg (by simp [hp])]
      exact Ev.step (fun k => by simp only [head_HostX.l1]; rfl) (Ev.neg (by omega) (Ev.pos (by rw [B_toList]; exact hp) (Ev.ret rfl)))
    · rw [if_pos (by simp [hp])]
      exact Ev.step (fun k => by simp only [head_HostX.l1]; rfl) (Ev.neg (by omega) (Ev.neg (by rw [B_toList]; exact hp) h))
  | succ d ih =>
    intro j hj
    have hr := ih (j + 1) (by omega)
    have hw := wrap_succ j (by omega)
    rw [← hw] at hr
    have hlt : j < p.length := by omega
    have hb := B_bt p j hlt
    have hd : p.drop j = p[j] :: p.drop (j + 1) := List.drop_eq_getElem_cons hlt
    rw [hd, List.all_cons]
    refine Ev.step (fun k => by simp only [head_HostX.l1]; rfl) (Ev.pos (by omega) (Ev.pos (by omega) (Ev.pos (by rw [B_size]; omega) ?_)))
    rw [hb]
    refine Ev.call (alnum_is _) ?_
    cases hA : alB p[j] with
    | true =>
      rw [show hbB p[j] = true by simp [hbB, hA], Bool.true_and]
      exact Ev.pos rfl hr
    | false =>
      refine Ev.neg (by simp) ?_
      by_cases h45 : p[j].toNat = 45
      · rw [show hbB p[j] = true by simp [hbB, h45], Bool.true_and]
        exact Ev.pos (by omega) hr
      · rw [show hbB p[j] = false by simp [hbB, hA, h45], Bool.false_and, Bool.false_and, if_neg (by simp)]
        exact Ev.neg (by omega) (Ev.ret rfl)
theorem hostL_is (h : List UInt8) (hh : h.length ≤ 4294967296) (ps : List (List UInt8)) (hps : ps.length ≤ 4294967296) (hb : ∀ p ∈ ps, p.length ≤ 4294967296) :
    ∀ (d i : Nat), i + d = ps.length → Ev (fun k => head_HostX.l0 k (B h) (ps.map B) (ps.length : Int) (i : Int)) (if (ps.drop i).all partOk = true then (B (h.map lowB), true) else (B [], false)) := by
  intro d
  induction d with
  | zero =>
    intro i hi
    rw [List.drop_eq_nil_of_le (by omega), List.all_nil, if_pos rfl]
    exact Ev.step (fun k => by simp only [head_HostX.l0]; rfl) (Ev.neg (by omega) (Ev.call (Lower_is h hh) (Ev.ret rfl)))
  | succ d ih =>
    intro i hi
    have hw := wrap_succ i (by omega)
    have hlt : i < ps.length := by omega
    have h1 := ih (i + 1) (by omega)
    rw [← hw] at h1
    have hr := hostP_is (B h) (ps.map B) (ps.length : Int) (i : Int) ps[i] (hb _ (List.getElem_mem hlt)) _ h1 ps[i].length 0 (by omega)
    have hrd : rdOf ByteArray.empty (ps.map B) (i : Int) = B ps[i] := by simp [rdOf, hlt]
    have hd : ps.drop i = ps[i] :: ps.drop (i + 1) := List.drop_eq_getElem_cons hlt
    refine Ev.step (fun k => by simp only [head_HostX.l0]; rfl) (Ev.pos (by omega) (Ev.pos (by omega) (Ev.pos (by rw [List.length_map]; omega) ?_)))
    rw [hrd, B_size, hd, List.all_cons]
    rw [List.drop_zero] at hr
    refine Ev.res hr ?_
    show (if partOk ps[i] = true then _ else _) = _
    cases partOk ps[i] <;> simp
theorem hostX_is (l : List UInt8) (hl : l.length ≤ 1000000000) (hd : (Lib.cut l [58]).2.1.all digB = true) : Ev (fun k => head_HostX.f k (B l)) (hostR l) := by
  have hc : strings_Cut.f (B l) (⟨#[58]⟩ : ByteArray) = some (B (Lib.cut l [58]).1, B (Lib.cut l [58]).2.1, (Lib.cut l [58]).2.2) := Cut_is l [58] (by omega)
  have hle : (Lib.cut l [58]).1.length ≤ l.length := by
    unfold Lib.cut
    split
    · simp
      omega
    · exact Nat.le_refl _
  unfold hostR hostS
  generalize (Lib.cut l [58]).1 = h at hc hle ⊢
  generalize (Lib.cut l [58]).2.1 = port at hc hd ⊢
  unfold head_HostX.f
  by_cases h5 : port.length ≤ 5
  · by_cases h64 : h.length ≤ 64
    · refine Ev.call hc (Ev.neg (by rw [B_size]; omega) ?_)
      rw [show decide (((B h).size : Int) > 64) = false by rw [B_size]; exact decide_eq_false (by omega)]
      have hs : strings_Split.f (B h) (⟨#[46]⟩ : ByteArray) = some ((Lib.split h [46]).map B) := Split_is h [46] (by omega) (by decide)
      obtain ⟨s1, s2⟩ := split_len h [46]
      have hr := hostL_is h (by omega) (Lib.split h [46]) (by omega) (fun p hp => by have := s2 p hp; omega) (Lib.split h [46]).length 0 (by omega)
      rw [List.drop_zero] at hr
      refine Ev.step (fun k => by simp only [head_HostX.j0]; rfl) (Ev.neg (by simp) (Ev.call hs ?_))
      rw [List.length_map]
      refine Ev.res hr ?_
      by_cases hp : (Lib.split h [46]).all partOk = true
      · rw [if_pos hp, if_pos ⟨hd, h5, h64, hp⟩]
      · rw [if_neg hp, if_neg (fun hh => hp hh.2.2.2)]
    · rw [if_neg (fun hh => h64 hh.2.2.1)]
      refine Ev.call hc (Ev.neg (by rw [B_size]; omega) ?_)
      rw [show decide (((B h).size : Int) > 64) = true by rw [B_size]; exact decide_eq_true (by omega)]
      exact Ev.step (fun k => by simp only [head_HostX.j0]; rfl) (Ev.pos (by trivial) (Ev.ret rfl))
  · rw [if_neg (fun hh => h5 hh.2.1)]
    exact Ev.call hc (Ev.pos (by rw [B_size]; omega) (Ev.step (fun k => by simp only [head_HostX.j0]; rfl) (Ev.pos (by trivial) (Ev.ret rfl))))
/-- THE LAW: what Host tells -/
theorem host_is (l : List UInt8) (hl : l.length ≤ 1000000000) : Ev (fun k => head_Host.f k (B l)) (hostR l) := by
  have hc : strings_Cut.f (B l) (⟨#[58]⟩ : ByteArray) = some (B (Lib.cut l [58]).1, B (Lib.cut l [58]).2.1, (Lib.cut l [58]).2.2) := Cut_is l [58] (by omega)
  unfold head_Host.f
  by_cases h : (Lib.cut l [58]).2.1.all digB = true
  · exact Ev.call hc (Ev.pos (by rw [B_list]; exact h) (hostX_is l hl h))
  · refine Ev.call hc (Ev.neg (by rw [B_list]; exact h) (Ev.ret ?_))
    unfold hostR hostS
    rw [if_neg (fun hh => h hh.1)]
    rfl
end Go.Proofs.YtabkdmfnafeaeaaDoor.HP
namespace Go.Proofs.YtabkdmfnafeaeaaDoor.HP
open Go.RowKit Go.Proofs.YtabkdmfnafeaeaaDoor.Q Go.Proofs.YtabkdmfnafeaeaaDoorW.PrintWords Go.Proofs.YtabkdmfnafeaeaaDoorW.PrintLast Go.Proofs.YtabkdmfnafeaeaaDoorW.PrintMore
abbrev Fd := List UInt8 × List UInt8
def sF (f : Fd) : S38 := ⟨B f.1, B f.2⟩
def fOk (hh : List UInt8) (f : Fd) : Bool := tokOk f.1 && decide (f.1.map lowB = f.1) && valOk f.2 && (decide (f.1 ≠ hostL) || decide (hostS f.2 = (hh, true)))
def wOk (m p q hh : List UInt8) (fs : List Fd) : Bool := tokOk m && pathL p && suchL true q && fs.all (fOk hh)
def nh (fs : List Fd) : Nat := fs.countP (fun f => decide (f.1 = hostL))
def wf (f : Fd) : Fd := (f.1, 32 :: f.2)
def writeL (m p q : List UInt8) (fs : List Fd) : List UInt8 := headL m (tgt p q) (fs.map wf)
def szF (fs : List Fd) : Nat := (fs.map (fun f => f.1.length + f.2.length + 4)).sum
theorem flat_len (fs : List Fd) : ((fs.map wf).map lineOf).flatMap (fun a => a ++ [13, 10]) = fs.flatMap (fun f => f.1 ++ 58 :: 32 :: (f.2 ++ [13, 10])) := by
  rw [List.flatMap_map, List.flatMap_map]
  congr 1
  funext f
  simp [lineOf, wf]
theorem writeL_flat (m p q : List UInt8) (fs : List Fd) : writeL m p q fs = (m ++ 32 :: (tgt p q ++ 32 :: (verL ++ [13, 10]))) ++ fs.flatMap (fun f => f.1 ++ 58 :: 32 :: (f.2 ++ [13, 10])) ++ [13, 10] := by
  unfold writeL
  rw [head_flat]
  unfold linesL
  rw [List.flatMap_cons, flat_len]
  simp [firstL]
theorem flat_sz (fs : List Fd) : (fs.flatMap (fun f => f.1 ++ 58 :: 32 :: (f.2 ++ [13, 10]))).length = szF fs := by
  induction fs with
  | nil => rfl
  | cons f fs ih =>
    rw [List.flatMap_cons, List.length_append, ih]
    simp [szF]
    omega
theorem writeL_length (m p q : List UInt8) (fs : List Fd) : (writeL m p q fs).length = m.length + (tgt p q).length + 12 + szF fs + 2 := by
  rw [writeL_flat, List.length_append, List.length_append, flat_sz]
  simp [verL]
  omega
theorem sz_mem {fs : List Fd} {f : Fd} (hf : f ∈ fs) : f.1.length + f.2.length + 4 ≤ szF fs := by
  induction fs with
  | nil => simp at hf
  | cons g fs ih =>
    rcases List.mem_cons.1 hf with rfl | h
    · simp [szF]
    · have := ih h
      simp [szF] at this ⊢
      omega
theorem tgt_no {p q : List UInt8} (hp : pathL p = true) (hq : suchL true q = true) : (13 : UInt8) ∉ tgt p q ∧ (32 : UInt8) ∉ tgt p q := by
  have hs := (path_such hp).1
  have a1 := such_no false p hs 13 (by decide) (by decide) (by decide)
  have a2 := such_no false p hs 32 (by decide) (by decide) (by decide)
  have b1 := such_no true q hq 13 (by decide) (by decide) (by decide)
  have b2 := such_no true q hq 32 (by decide) (by decide) (by decide)
  unfold tgt
  split <;> simp [a1, a2, b1, b2]
theorem tgt_length (p q : List UInt8) : p.length + q.length ≤ (tgt p q).length := by
  unfold tgt
  split
  · rename_i h
    simp [h]
  · simp
end Go.Proofs.YtabkdmfnafeaeaaDoor.HP
namespace Go.Proofs.YtabkdmfnafeaeaaDoor.HP
open Go.RowKit Go.Proofs.YtabkdmfnafeaeaaDoor.Q Go.Proofs.YtabkdmfnafeaeaaDoorW.PrintWords Go.Proofs.YtabkdmfnafeaeaaDoorW.PrintLast Go.Proofs.YtabkdmfnafeaeaaDoorW.PrintMore
theorem N8_app (a b : List UInt8) : bytesOf (B a) ++ bytesOf (B b) = bytesOf (B (a ++ b)) := by rw [N8_B, N8_B, N8_B, List.map_append]
theorem N8_len (a : List UInt8) : (bytesOf (B a)).length = a.length := by rw [N8_B, List.length_map]
theorem rd_F (fs : List Fd) (i : Nat) (hi : i < fs.length) : rd_T38 (fs.map sF) (i : Int) = sF fs[i] := by simp [rd_T38, hi]
def W2 (m p q : List UInt8) (fs : List Fd) (ok : Bool) (n : Nat) : List Int × Int :=
  if ok = true ∧ n = 1 then (if 32 < fs.length ∨ 2048 < (writeL m p q fs).length then ([], 6) else (bytesOf (B (writeL m p q fs)), 0)) else ([], 4)
theorem W2_a (m p q : List UInt8) (fs : List Fd) (h : 32 < fs.length ∨ 2048 < (writeL m p q fs).length) : W2 m p q fs true 1 = ([], 6) := by
  unfold W2
  rw [if_pos ⟨rfl, rfl⟩, if_pos h]
theorem W2_b (m p q : List UInt8) (fs : List Fd) (h : ¬ (32 < fs.length ∨ 2048 < (writeL m p q fs).length)) : W2 m p q fs true 1 = (bytesOf (B (writeL m p q fs)), 0) := by
  unfold W2
  rw [if_pos ⟨rfl, rfl⟩, if_neg h]
def preW (m p q : List UInt8) : List UInt8 := m ++ 32 :: (tgt p q ++ 32 :: (verL ++ [13, 10]))
def flatW (fs : List Fd) : List UInt8 := fs.flatMap (fun f => f.1 ++ 58 :: 32 :: (f.2 ++ [13, 10]))
theorem writeL_pre (m p q : List UInt8) (fs : List Fd) : writeL m p q fs = preW m p q ++ flatW fs ++ [13, 10] := writeL_flat m p q fs
theorem flatW_take (fs : List Fd) (i : Nat) (hi : i < fs.length) : flatW (fs.take (i + 1)) = flatW (fs.take i) ++ (fs[i].1 ++ 58 :: 32 :: (fs[i].2 ++ [13, 10])) := by
  rw [List.take_succ_eq_append_getElem hi]
  unfold flatW
  rw [List.flatMap_append, List.flatMap_cons, List.flatMap_nil, List.append_nil]
theorem flatW_le (fs : List Fd) (i : Nat) : (flatW (fs.take i)).length ≤ szF fs := by
  have h : fs = fs.take i ++ fs.drop i := (List.take_append_drop i fs).symm
  have h2 : (flatW fs).length = szF fs := flat_sz fs
  rw [← h2]
  conv => rhs; rw [h]
  unfold flatW
  rw [List.flatMap_append, List.length_append]
  omega
theorem write_l1 (m p q hh : List UInt8) (fs : List Fd) (hpre : (preW m p q).length ≤ 100000000) (hsz : szF fs ≤ 100000000) (hfs : fs.length ≤ 100000000) : ∀ (d i : Nat), i + d = fs.length →
    Ev (fun k => head_Write.l1 k (bytesOf (B (preW m p q ++ flatW (fs.take i)))) (fs.map sF) (fs.length : Int) (i : Int) (B m) (B p) (B q) (B hh) (fs.map sF)) (W2 m p q fs true 1) := by
  intro d
  induction d with
  | zero =>
    intro i hi
    have hle := flatW_le fs i
    have e2 : bytesOf (⟨#[13, 10]⟩ : ByteArray) = bytesOf (B [13, 10]) := rfl
    refine Ev.step (fun k => by simp only [head_Write.l1]; rfl) (Ev.neg (by omega) (Ev.pos (by rw [N8_len, List.length_append]; omega) (Ev.put ?_)))
    rw [e2, N8_app, N8_len, List.length_map]
    rw [List.take_of_length_le (by omega), ← writeL_pre]
    by_cases h1 : 32 < fs.length
    · rw [W2_a m p q fs (.inl h1)]
      exact Ev.pos (by omega) (Ev.ret rfl)
    · by_cases h2 : 2048 < (writeL m p q fs).length
      · rw [W2_a m p q fs (.inr h2)]
        exact Ev.neg (by omega) (Ev.pos (by omega) (Ev.ret rfl))
      · rw [W2_b m p q fs (by omega)]
        exact Ev.neg (by omega) (Ev.neg (by omega) (Ev.ret rfl))
  | succ d ih =>
    intro i hi
    have hlt : i < fs.length := by omega
    have hw := wrap_succ i (by omega)
    have hle := flatW_le fs i
    have hm := sz_mem (List.getElem_mem hlt)
    have hi' := ih (i + 1) (by omega)
    have e1 : ((((sF fs[i]).f0 ++ (⟨#[58, 32]⟩ : ByteArray)) ++ (sF fs[i]).f1) ++ (⟨#[13, 10]⟩ : ByteArray)) = B (fs[i].1 ++ 58 :: 32 :: (fs[i].2 ++ [13, 10])) := by
      show ((B fs[i].1 ++ B [58, 32]) ++ B fs[i].2) ++ B [13, 10] = _
      rw [B_append, B_append, B_append]
      simp
    have s1 : ((sF fs[i]).f0).size = fs[i].1.length := B_size _
    have s2 : ((sF fs[i]).f0 ++ (⟨#[58, 32]⟩ : ByteArray)).size = fs[i].1.length + 2 := by rw [ByteArray.size_append, s1]; rfl
    have s3 : ((sF fs[i]).f1).size = fs[i].2.length := B_size _
    have s4 : (((sF fs[i]).f0 ++ (⟨#[58, 32]⟩ : ByteArray)) ++ (sF fs[i]).f1).size = fs[i].1.length + 2 + fs[i].2.length := by rw [ByteArray.size_append, s2, s3]
    have s5 : (B (fs[i].1 ++ 58 :: 32 :: (fs[i].2 ++ [13, 10]))).size = fs[i].1.length + fs[i].2.length + 4 := by rw [B_size]; simp; omega
    refine Ev.step (fun k => by simp only [head_Write.l1]; rfl) ?_
    rw [rd_F fs i hlt]
    rw [e1, s1, s2, s3, s4, s5]
    refine Ev.pos (by omega) (Ev.pos (by omega) (Ev.pos (by rw [List.length_map]; omega) (Ev.pos (by omega) (Ev.pos (by omega) (Ev.pos (by omega) (Ev.pos (by rw [N8_len, List.length_append]; omega) ?_))))))
    rw [N8_app, hw, List.append_assoc, ← flatW_take fs i hlt]
    exact hi'
theorem write_j3 (m p q hh : List UInt8) (fs : List Fd) (hpre : (preW m p q).length ≤ 100000000) (hsz : szF fs ≤ 100000000) (hfs : fs.length ≤ 100000000) :
    Ev (fun k => head_Write.j3 k (bytesOf (B (m ++ 32 :: tgt p q))) (B m) (B p) (B q) (B hh) (fs.map sF)) (W2 m p q fs true 1) := by
  have h := write_l1 m p q hh fs hpre hsz hfs fs.length 0 (by omega)
  have e1 : bytesOf (⟨#[32, 72, 84, 84, 80, 47, 49, 46, 49, 13, 10]⟩ : ByteArray) = bytesOf (B (32 :: (verL ++ [13, 10]))) := rfl
  have hl : (m ++ 32 :: tgt p q).length ≤ (preW m p q).length := by simp [preW]
  refine Ev.step (fun k => by simp only [head_Write.j3]; rfl) (Ev.pos (by rw [N8_len]; omega) ?_)
  rw [e1, N8_app, List.length_map]
  have e2 : m ++ 32 :: tgt p q ++ 32 :: (verL ++ [13, 10]) = preW m p q ++ flatW (fs.take 0) := by simp [preW, flatW]
  rw [e2]
  exact h
theorem write_j2 (m p q hh : List UInt8) (fs : List Fd) (hpre : (preW m p q).length ≤ 100000000) (hsz : szF fs ≤ 100000000) (hfs : fs.length ≤ 100000000) :
    Ev (fun k => head_Write.j2 k false (B m) (B p) (B q) (B hh) (fs.map sF)) (W2 m p q fs true 1) := by
  have h := write_j3 m p q hh fs hpre hsz hfs
  have hl : m.length + (tgt p q).length + 12 = (preW m p q).length := by simp [preW, verL]; omega
  have htl := tgt_length p q
  have e1 : B m ++ (⟨#[32]⟩ : ByteArray) = B (m ++ [32]) := B_append m [32]
  have e2 : B (m ++ [32]) ++ B p = B (m ++ 32 :: p) := by rw [B_append]; simp
  refine Ev.step (fun k => by simp only [head_Write.j2]; rfl) (Ev.neg (by simp) ?_)
  rw [e1, e2, B_size, B_size, B_size, B_size]
  refine Ev.pos (by omega) (Ev.pos (by simp; omega) (Ev.pos (by simp; omega) (Ev.put ?_)))
  by_cases hq : q = []
  · refine Ev.pos (by rw [B_toList]; exact hq) ?_
    rw [show m ++ 32 :: p = m ++ 32 :: tgt p q by simp [tgt, hq]]
    exact h
  · have ht : tgt p q = p ++ 63 :: q := by simp [tgt, hq]
    have hq1 : q.length + 1 ≤ (tgt p q).length := by rw [ht]; simp
    have e3 : (⟨#[63]⟩ : ByteArray) ++ B q = B (63 :: q) := B_append [63] q
    refine Ev.neg (by rw [B_toList]; exact hq) ?_
    rw [e3, B_size, B_size, N8_len, N8_app]
    refine Ev.pos (by omega) (Ev.pos (by simp; omega) ?_)
    rw [show m ++ 32 :: p ++ 63 :: q = m ++ 32 :: tgt p q by rw [ht]; simp]
    exact h
theorem fOk_eq {hh : List UInt8} {f : Fd} (htk : tokOk f.1 = true) (hlo : f.1.map lowB = f.1) (hvl : valOk f.2 = true) (h : f.1 = hostL) : fOk hh f = decide (hostS f.2 = (hh, true)) := by
  unfold fOk
  rw [htk, hvl, decide_eq_true hlo, decide_eq_false (by simpa using h)]
  simp
theorem write_l0 (m p q hh : List UInt8) (fs : List Fd) (hpre : (preW m p q).length ≤ 100000000) (hsz : szF fs ≤ 100000000) (hfs : fs.length ≤ 100000000) : ∀ (d i : Nat), i + d = fs.length → ∀ (ok : Bool) (n : Nat), n ≤ i →
    Ev (fun k => head_Write.l0 k ok (n : Int) (fs.map sF) (fs.length : Int) (i : Int) (B m) (B p) (B q) (B hh) (fs.map sF)) (W2 m p q fs (ok && (fs.drop i).all (fOk hh)) (n + nh (fs.drop i))) := by
  intro d
  induction d with
  | zero =>
    intro i hi ok n hn
    have h := write_j2 m p q hh fs hpre hsz hfs
    have hT : ∀ o : Bool, (o = false ∨ n ≠ 1) → Ev (fun k => head_Write.j2 k true (B m) (B p) (B q) (B hh) (fs.map sF)) (W2 m p q fs o n) := by
      intro o ho
      unfold W2
      rw [if_neg (by rintro ⟨rfl, rfl⟩; simp at ho)]
      exact Ev.step (fun k => by simp only [head_Write.j2]; rfl) (Ev.pos (by trivial) (Ev.ret rfl))
    refine Ev.step (fun k => by simp only [head_Write.l0]; rfl) (Ev.neg (by omega) ?_)
    rw [List.drop_eq_nil_of_le (by omega), List.all_nil, Bool.and_true, show nh [] = 0 from rfl, Nat.add_zero]
    cases ok with
    | false => exact Ev.neg (by simp) (hT false (.inl rfl))
    | true =>
      refine Ev.pos rfl ?_
      by_cases h1 : n = 1
      · subst h1
        exact h
      · rw [show ((n : Int) != 1) = true by simp; omega]
        exact hT true (.inr h1)
  | succ d ih =>
    intro i hi ok n hn
    have hlt : i < fs.length := by omega
    have hw := wrap_succ i (by omega)
    have hw2 := wrap_succ n (by omega)
    have hm := sz_mem (List.getElem_mem hlt)
    have hd : fs.drop i = fs[i] :: fs.drop (i + 1) := List.drop_eq_getElem_cons hlt
    generalize hf : fs[i] = f at hm hd
    have hrd : rd_T38 (fs.map sF) (i : Int) = sF f := by rw [rd_F fs i hlt, hf]
    have tk := token_is f.1 (by omega)
    have vl := value_is f.2 (by omega)
    have lo : head_lower.f (B f.1) = some (B (f.1.map lowB)) := Lower_is f.1 (by omega)
    have hx := host_is f.2 (by omega)
    have hN : nh (fs.drop i) = (if f.1 = hostL then 1 else 0) + nh (fs.drop (i + 1)) := by
      rw [hd]
      unfold nh
      rw [List.countP_cons]
      by_cases h : f.1 = hostL <;> simp [h] <;> omega
    have hI : ∀ (o : Bool), Ev (fun k => head_Write.l0 k o (wrap64 ((n : Int) + 1)) (fs.map sF) (fs.length : Int) (wrap64 ((i : Int) + 1)) (B m) (B p) (B q) (B hh) (fs.map sF)) (W2 m p q fs (o && (fs.drop (i + 1)).all (fOk hh)) (n + 1 + nh (fs.drop (i + 1)))) := by
      intro o
      rw [hw, hw2]
      exact ih (i + 1) (by omega) o (n + 1) (by omega)
    have hI0 : ∀ (o : Bool), Ev (fun k => head_Write.l0 k o (n : Int) (fs.map sF) (fs.length : Int) (wrap64 ((i : Int) + 1)) (B m) (B p) (B q) (B hh) (fs.map sF)) (W2 m p q fs (o && (fs.drop (i + 1)).all (fOk hh)) (n + nh (fs.drop (i + 1)))) := by
      intro o
      rw [hw]
      exact ih (i + 1) (by omega) o n (by omega)
    -- whatever is no field ends at false
    have hBad : (ok && fOk hh f) = false → Ev (fun k => if (sF f).f0.toList = ([104, 111, 115, 116] : List UInt8) then ((head_Host.f k (sF f).f1).bind fun _ => head_Write.l0 k false (wrap64 ((n : Int) + 1)) (fs.map sF) (fs.length : Int) (wrap64 ((i : Int) + 1)) (B m) (B p) (B q) (B hh) (fs.map sF)) else head_Write.l0 k false (n : Int) (fs.map sF) (fs.length : Int) (wrap64 ((i : Int) + 1)) (B m) (B p) (B q) (B hh) (fs.map sF)) (W2 m p q fs (ok && (fs.drop i).all (fOk hh)) (n + nh (fs.drop i))) := by
      intro hb
      have hB2 : (ok && (fs.drop i).all (fOk hh)) = (false && (fs.drop (i + 1)).all (fOk hh)) := by
        rw [hd, List.all_cons, ← Bool.and_assoc, hb]
      rw [hB2, hN]
      by_cases h : f.1 = hostL
      · rw [if_pos h, ← Nat.add_assoc]
        exact Ev.pos (by show (B f.1).toList = _; rw [B_toList]; exact h) (Ev.bind hx (hI false))
      · rw [if_neg h, Nat.zero_add]
        exact Ev.neg (by show ¬ (B f.1).toList = _; rw [B_toList]; exact h) (hI0 false)
    refine Ev.step (fun k => by simp only [head_Write.l0]; rfl) ?_
    rw [hrd]
    refine Ev.pos (by omega) (Ev.pos (by omega) (Ev.pos (by rw [List.length_map]; omega) ?_))
    cases ok with
    | false => exact Ev.neg (by simp) (hBad (by rw [Bool.false_and]))
    | true =>
      refine Ev.pos rfl (Ev.bind tk ?_)
      cases htk : tokOk f.1 with
      | false => exact Ev.neg (by simp) (hBad (by simp [fOk, htk]))
      | true =>
        refine Ev.pos rfl (Ev.call lo ?_)
        by_cases hlo : f.1.map lowB = f.1
        · refine Ev.pos (by show (B (f.1.map lowB)).toList = (B f.1).toList; rw [hlo]) (Ev.bind vl ?_)
          have hall : (true && (fs.drop i).all (fOk hh)) = ((true && fOk hh f) && (fs.drop (i + 1)).all (fOk hh)) := by rw [hd, List.all_cons, Bool.and_assoc]
          rw [hall, hN]
          by_cases h : f.1 = hostL
          · rw [if_pos h, ← Nat.add_assoc]
            refine Ev.pos (by show (B f.1).toList = _; rw [B_toList]; exact h) (Ev.bind hx ?_)
            cases hvl : valOk f.2 with
            | false =>
              rw [show (true && fOk hh f) = false by simp [fOk, hvl]]
              exact Ev.neg (by simp) (hI false)
            | true =>
              refine Ev.pos rfl ?_
              cases hb : (hostS f.2).2 with
              | false =>
                rw [show (true && fOk hh f) = false by simp [fOk, h]; intro _ _ _ hq; rw [hq] at hb; cases hb]
                exact Ev.neg (by show ¬ (hostR f.2).2 = true; unfold hostR; simp [hb]) (hI false)
              | true =>
                refine Ev.pos (by show (hostR f.2).2 = true; exact hb) ?_
                have he : ((hostR f.2).1.toList == (B hh).toList) = (true && fOk hh f) := by
                  show ((B (hostS f.2).1).toList == (B hh).toList) = _
                  rw [B_toList, B_toList, Bool.true_and, fOk_eq htk hlo hvl h, Bool.eq_iff_iff, beq_iff_eq, decide_eq_true_eq]
                  constructor
                  · intro hq
                    rw [← hq, ← hb]
                  · intro hq
                    rw [hq]
                rw [he]
                exact hI _
          · rw [if_neg h, Nat.zero_add]
            refine Ev.neg (by show ¬ (B f.1).toList = _; rw [B_toList]; exact h) ?_
            have he : valOk f.2 = (true && fOk hh f) := by simp [fOk, htk, hlo, h]
            rw [← he]
            exact hI0 _
        · exact Ev.neg (by show ¬ (B (f.1.map lowB)).toList = (B f.1).toList; rw [B_toList, B_toList]; exact hlo) (hBad (by simp [fOk, hlo]))
/-- THE LAW: what Write tells -/
theorem write_is (m p q hh : List UInt8) (fs : List Fd) (hpre : (preW m p q).length ≤ 100000000) (hsz : szF fs ≤ 100000000) (hfs : fs.length ≤ 100000000) :
    Ev (fun k => head_Write.f k (B m) (B p) (B q) (B hh) (fs.map sF)) (W2 m p q fs (wOk m p q hh fs) (nh fs)) := by
  have hl : m.length + (tgt p q).length + 12 = (preW m p q).length := by simp [preW, verL]; omega
  have htl := tgt_length p q
  have hJ : ∀ o : Bool, Ev (fun k => head_Write.j0 k o (B m) (B p) (B q) (B hh) (fs.map sF)) (W2 m p q fs (o && fs.all (fOk hh)) (nh fs)) := by
    intro o
    have h := write_l0 m p q hh fs hpre hsz hfs fs.length 0 (by omega) o 0 (by omega)
    rw [List.drop_zero, Nat.zero_add] at h
    refine Ev.step (fun k => by simp only [head_Write.j0]; rfl) ?_
    rw [List.length_map]
    exact h
  unfold head_Write.f wOk
  refine Ev.bind (token_is m (by omega)) ?_
  cases tokOk m with
  | false => exact Ev.neg (by simp) (hJ false)
  | true =>
    refine Ev.pos rfl (Ev.bind (path_is p (by omega)) ?_)
    cases pathL p with
    | false => exact Ev.neg (by simp) (hJ false)
    | true => exact Ev.pos rfl (Ev.bind (such_is true q (by omega)) (hJ _))
/-! a head that came in, as lists -/
def unF (x : S38) : Fd := (x.f0.data.toList, x.f1.data.toList)
theorem unF_s (l : List S38) : (l.map unF).map sF = l := by
  rw [List.map_map]
  conv => rhs; rw [← List.map_id l]
  apply List.map_congr_left
  intro x _
  show (⟨B x.f0.data.toList, B x.f1.data.toList⟩ : S38) = x
  rw [B_of, B_of]
theorem szF_un (l : List S38) : szF (l.map unF) + (l.map unF).length ≤ 4 * (l.map (fun y => mu38 y)).sum := by
  induction l with
  | nil => simp [szF]
  | cons x l ih =>
    simp only [List.map_cons, List.sum_cons, szF, List.length_cons] at ih ⊢
    have h0 : x.f0.data.toList.length = x.f0.size := by simp
    have h1 : x.f1.data.toList.length = x.f1.size := by simp
    simp only [unF, mu38] at ih ⊢
    omega
/-- what comes in, within the bounds -/
theorem head_in (y : S25) (h : mu25 y ≤ 1048576) : ∃ m p q hh fs, y = ⟨B m, B p, B q, B hh, fs.map sF⟩ ∧ m.length + p.length + q.length + hh.length ≤ 1048576 ∧ (preW m p q).length ≤ 10000000 ∧ szF fs ≤ 10000000 ∧ fs.length ≤ 10000000 := by
  obtain ⟨a, b, c, d, l⟩ := y
  have hs := szF_un l
  simp only [mu25] at h
  have e0 : a.data.toList.length = a.size := by simp
  have e1 : b.data.toList.length = b.size := by simp
  have e2 : c.data.toList.length = c.size := by simp
  have e3 : d.data.toList.length = d.size := by simp
  refine ⟨a.data.toList, b.data.toList, c.data.toList, d.data.toList, l.map unF, by rw [B_of, B_of, B_of, B_of, unF_s], by omega, ?_, by omega, by omega⟩
  unfold preW tgt
  split <;> simp [verL] <;> omega
end Go.Proofs.YtabkdmfnafeaeaaDoor.HP
namespace Go.Proofs.YtabkdmfnafeaeaaDoor.HP
open Go.RowKit Go.Proofs.YtabkdmfnafeaeaaDoor.Q Go.Proofs.YtabkdmfnafeaeaaDoorW.PrintWords Go.Proofs.YtabkdmfnafeaeaaDoorW.PrintLast Go.Proofs.YtabkdmfnafeaeaaDoorW.PrintMore
theorem live_is : Ev (fun k => tollgatelaw09_live.f k) true := Ev.of (fun k => tollgatelaw09_live.mono k) (k := 60) (by decide +kernel)
theorem W2_cases (m p q : List UInt8) (fs : List Fd) (ok : Bool) (n : Nat) : (∃ e : Int, (e = 4 ∨ e = 6) ∧ W2 m p q fs ok n = ([], e)) ∨ (ok = true ∧ n = 1 ∧ fs.length ≤ 32 ∧ (writeL m p q fs).length ≤ 2048 ∧ W2 m p q fs ok n = (bytesOf (B (writeL m p q fs)), 0)) := by
  unfold W2
  by_cases h1 : ok = true ∧ n = 1
  · rw [if_pos h1]
    by_cases h2 : 32 < fs.length ∨ 2048 < (writeL m p q fs).length
    · rw [if_pos h2]
      exact .inl ⟨6, .inr rfl, rfl⟩
    · rw [if_neg h2]
      exact .inr ⟨h1.1, h1.2, by omega, by omega, rfl⟩
  · rw [if_neg h1]
    exact .inl ⟨4, .inl rfl, rfl⟩
end Go.Proofs.YtabkdmfnafeaeaaDoor.HP
namespace Go.Proofs.YtabkdmfnafeaeaaDoor.HP
open Go.RowKit Go.Proofs.YtabkdmfnafeaeaaDoor.Q Go.Proofs.YtabkdmfnafeaeaaDoorW.PrintWords Go.Proofs.YtabkdmfnafeaeaaDoorW.PrintLast Go.Proofs.YtabkdmfnafeaeaaDoorW.PrintMore
theorem blank_in (c : UInt8) : blankB c = ([9, 32] : List UInt8).contains c := by
  unfold blankB
  rw [Bool.eq_iff_iff, decide_eq_true_eq]
  simp only [List.contains_cons, List.contains_nil, Bool.or_false, Bool.or_eq_true, beq_iff_eq]
  constructor
  · rintro (h | h)
    · exact .inl (UInt8.toNat_inj.1 h)
    · exact .inr (UInt8.toNat_inj.1 h)
  · rintro (rfl | rfl)
    · exact .inl rfl
    · exact .inr rfl
theorem drop_all (bl s : List UInt8) (h : ∀ c ∈ bl, blankB c = true) : (bl ++ s).dropWhile (([9, 32] : List UInt8).contains ·) = s.dropWhile (([9, 32] : List UInt8).contains ·) := by
  induction bl with
  | nil => rfl
  | cons x bl ih =>
    have hx : ([9, 32] : List UInt8).contains x = true := by rw [← blank_in]; exact h x (by simp)
    rw [List.cons_append, List.dropWhile_cons, if_pos hx]
    exact ih (fun c hc => h c (by simp [hc]))
/-- blanks around a value play no part -/
theorem trim_around (v bl br : List UInt8) (hv : valOk v = true) (hl : ∀ c ∈ bl, blankB c = true) (hr : ∀ c ∈ br, blankB c = true) : Lib.trimS (bl ++ v ++ br) [9, 32] = v := by
  have hr' : ∀ c ∈ br.reverse, blankB c = true := fun c hc => hr c (List.mem_reverse.1 hc)
  have hl' : ∀ c ∈ bl.reverse, blankB c = true := fun c hc => hl c (List.mem_reverse.1 hc)
  unfold Lib.trimS Lib.trimRightS Lib.trimLeftS
  rw [List.append_assoc, List.reverse_append, List.reverse_append, List.append_assoc, drop_all _ _ hr']
  unfold valOk at hv
  rw [Bool.and_eq_true] at hv
  cases v with
  | nil =>
    rw [List.reverse_nil, List.nil_append]
    have h1 := drop_all bl.reverse [] hl'
    rw [List.append_nil] at h1
    rw [h1]
    rfl
  | cons x r =>
    have he : (!blankB x && !blankB ((x :: r).getLastD 0)) = true := hv.2
    rw [Bool.and_eq_true, Bool.not_eq_true', Bool.not_eq_true'] at he
    rw [blank_in, blank_in] at he
    have hla : (x :: r).getLastD 0 = (x :: r).getLast (by simp) := by simp [List.getLastD_eq_getLast?, List.getLast?_eq_some_getLast]
    rw [hla] at he
    have hrev : (x :: r).reverse = (x :: r).getLast (by simp) :: (x :: r).dropLast.reverse := by
      conv => lhs; rw [← List.dropLast_concat_getLast (l := x :: r) (by simp)]
      simp
    rw [hrev, List.cons_append, drop_head _ _ _ he.2, ← List.cons_append, ← hrev, ← List.reverse_append, List.reverse_reverse, drop_all _ _ hl, drop_head _ _ _ he.1]
theorem trim_self (v : List UInt8) (hv : valOk v = true) : Lib.trimS v [9, 32] = v := by
  have := trim_around v [] [] hv (by simp) (by simp)
  simpa using this
/-! fields as they are told, with nothing between name and value -/
theorem W2_n' (m p q : List UInt8) (fs : List Fd) (ok : Bool) (n : Nat) (h : n ≠ 1) : W2 m p q fs ok n = ([], 4) := by
  unfold W2
  rw [if_neg (fun hh => h hh.2)]
def flatN (fs : List Fd) : List UInt8 := fs.flatMap (fun f => f.1 ++ 58 :: (f.2 ++ [13, 10]))
theorem headN (m t : List UInt8) (fs : List Fd) : headL m t fs = (m ++ 32 :: (t ++ 32 :: (verL ++ [13, 10]))) ++ flatN fs ++ [13, 10] := by
  have hfl : (fs.map lineOf).flatMap (fun a => a ++ [13, 10]) = flatN fs := by
    rw [List.flatMap_map]
    unfold flatN
    congr 1
    funext f
    simp [lineOf]
  rw [head_flat]
  unfold linesL
  rw [List.flatMap_cons, hfl]
  simp [firstL]
theorem fOk_good {hh : List UInt8} {f : Fd} (h : fOk hh f = true) (hl : f.1.length + f.2.length ≤ 100000000) : good f ∧ low f = f.1 ∧ tv f = f.2 := by
  simp only [fOk, Bool.and_eq_true, decide_eq_true_eq] at h
  obtain ⟨⟨⟨h1, h2⟩, h3⟩, h4⟩ := h
  have ht : tv f = f.2 := trim_self f.2 h3
  refine ⟨⟨?_, h1, by rw [ht]; exact h3, val_no h3 13 (by decide)⟩, h2, ht⟩
  simp [lineOf]
  omega
theorem host_a1 : Ev (fun k => head_Host.f k (B [97])) (B [97], true) := by
  have := host_is [97] (by decide)
  refine Ev.res this ?_
  decide +kernel
/-- no host, or two: none -/
theorem parse_not (m p q : List UInt8) (ho : List UInt8) (fs : List Fd) (hm : tokOk m = true) (hp : pathL p = true) (hq : suchL true q = true) (hg : ∀ f ∈ fs, good f)
    (hx : ∀ f ∈ fs, low f = hostL → Ev (fun k => head_Host.f k (B (tv f))) (B ho, true)) (hn : hosts fs ≠ 1) (hL : (headL m (tgt p q) fs).length ≤ 2048) (hfl : fs.length ≤ 5000) :
    Ev (fun k => head_Parse.f k (bytesOf (B (headL m (tgt p q) fs)))) (errR 4) := by
  obtain ⟨t13, t32⟩ := tgt_no hp hq
  have htl := tgt_length p q
  have hlen : (tgt p q).length ≤ (headL m (tgt p q) fs).length := by rw [headN]; simp; omega
  have h := parse_is m (tgt p q) (B p) (B q) (B []) fs (fun _ => B ho) [] (by simp) hm t13 t32 (target_is p q hp hq (by omega)) hg hx hL hfl
  rw [List.append_nil] at h
  refine Ev.res h ?_
  unfold fin
  rw [if_neg hn]
theorem nh_filter (fs : List Fd) : nh (fs.filter (fun f => decide (f.1 ≠ hostL))) = 0 ∧ nh (fs.filter (fun f => decide (f.1 = hostL))) = nh fs := by
  unfold nh
  rw [List.countP_eq_zero, List.countP_filter]
  constructor
  · intro f hf
    simpa using (List.mem_filter.1 hf).2
  · congr 1
    funext f
    simp
theorem szF_filter (p : Fd → Bool) (fs : List Fd) : szF (fs.filter p) ≤ szF fs := by
  induction fs with
  | nil => exact Nat.le_refl _
  | cons f fs ih =>
    rw [List.filter_cons]
    split
    · simp only [szF, List.map_cons, List.sum_cons] at ih ⊢
      omega
    · simp only [szF, List.map_cons, List.sum_cons] at ih ⊢
      omega
theorem szF_app (a b : List Fd) : szF (a ++ b) = szF a + szF b := by simp [szF]
theorem flatN_le (fs : List Fd) : (flatN fs).length ≤ szF fs := by
  induction fs with
  | nil => simp [flatN, szF]
  | cons f fs ih =>
    simp only [flatN, szF, List.flatMap_cons, List.map_cons, List.sum_cons, List.length_append, List.length_cons, List.length_nil] at ih ⊢
    omega
theorem flatN_app (a b : List Fd) : flatN (a ++ b) = flatN a ++ flatN b := by simp [flatN]
end Go.Proofs.YtabkdmfnafeaeaaDoor.HP
