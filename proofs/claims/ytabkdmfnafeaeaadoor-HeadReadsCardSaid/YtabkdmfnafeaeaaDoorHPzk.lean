/- Plain facts for the head: HPa, HPb, HPc, HPh, HPw, HPxr, HPr, HPq, HPk, one behind the other. -/
import Derived.Test.YtabkdmfnafeaeaaDoorRx11
import Derived.Test.YtabkdmfnafeaeaaDoorRx17
import Derived.Test.YtabkdmfnafeaeaaDoorRx21
import Derived.Test.YtabkdmfnafeaeaaDoorRx22
import Derived.Test.YtabkdmfnafeaeaaDoorRx5
import Derived.Lib.CountLaws
import Derived.Lib.IndexLaws
import Derived.Lib.Split
import Derived.Test.YtabkdmfnafeaeaaDoorRx16
import Derived.Test.YtabkdmfnafeaeaaDoorRx23
import Derived.Test.YtabkdmfnafeaeaaDoorRx7
import Derived.Test.YtabkdmfnafeaeaaDoorRx13
import Derived.Test.YtabkdmfnafeaeaaDoorRx14
import Derived.Test.YtabkdmfnafeaeaaDoorRx16
import Derived.Test.YtabkdmfnafeaeaaDoorRx7
import Derived.Test.YtabkdmfnafeaeaaDoorRx5
import Derived.Test.YtabkdmfnafeaeaaDoorRx7
import Derived.Test.YtabkdmfnafeaeaaDoorRx37
import Derived.Test.YtabkdmfnafeaeaaDoorRx38
import Derived.Test.YtabkdmfnafeaeaaDoorRm1
import Derived.Test.YtabkdmfnafeaeaaDoorRx33
namespace Go.Proofs.YtabkdmfnafeaeaaDoor.HP
open Go.RowKit Go.Proofs.YtabkdmfnafeaeaaDoor.R Go.Proofs.YtabkdmfnafeaeaaDoorW.PrintWords Go.Proofs.YtabkdmfnafeaeaaDoorW.PrintLast Go.Proofs.YtabkdmfnafeaeaaDoorW.PrintMore
theorem Ev.pos {α : Type} {c : Prop} [Decidable c] {a b : Nat → Option α} {r : α} (hc : c) (h : Ev a r) : Ev (fun k => if c then a k else b k) r := Ev.congr (fun _ => if_pos hc) h
theorem Ev.neg {α : Type} {c : Prop} [Decidable c] {a b : Nat → Option α} {r : α} (hc : ¬ c) (h : Ev b r) : Ev (fun k => if c then a k else b k) r := Ev.congr (fun _ => if_neg hc) h
theorem Ev.put {α β : Type} {x : β} {f : Nat → β → Option α} {r : α} (h : Ev (fun k => f k x) r) : Ev (fun k => (some x).bind (f k)) r := h
theorem Ev.call {α β : Type} {g : Option β} {x : β} {f : Nat → β → Option α} {r : α} (hg : g = some x) (h : Ev (fun k => f k x) r) : Ev (fun k => g.bind (f k)) r := by rw [hg]; exact h
theorem Ev.ret {α : Type} {a r : α} (h : a = r) : Ev (fun _ => some a) r := by rw [h]; exact Ev.now _
/-- a text of bytes -/
def B (l : List UInt8) : ByteArray := ⟨l.toArray⟩
theorem B_list (l : List UInt8) : (B l).data.toList = l := by simp [B]
theorem B_of (s : ByteArray) : B s.data.toList = s := by simp [B]
theorem B_size (l : List UInt8) : (B l).size = l.length := by simp [B, ByteArray.size]
theorem B_inj {a b : List UInt8} (h : B a = B b) : a = b := by rw [← B_list a, h, B_list]
theorem B_append (a b : List UInt8) : B a ++ B b = B (a ++ b) := by
  rw [← B_of (B a ++ B b)]
  congr 1
theorem B_toList (l : List UInt8) : (B l).toList = l := by rw [Lib.toList_data, B_list]
theorem B_bt (l : List UInt8) (i : Nat) (hi : i < l.length) : bt (B l) (i : Int) = ((l[i]).toNat : Int) := by
  unfold bt
  rw [dif_pos (by rw [Int.toNat_natCast, B_size]; exact hi)]
  simp only [Int.toNat_natCast]
  rfl
theorem B_extract (l : List UInt8) (i j : Nat) : (B l).extract i j = B ((l.drop i).take (j - i)) := by
  rw [← B_of ((B l).extract i j), Lib.extract_data, B_list]
theorem wrap_succ (i : Nat) (h : i < 9223372036854775807) : wrap64 ((i : Int) + 1) = ((i + 1 : Nat) : Int) := by unfold wrap64; omega
/-! cuts and splits -/
theorem occ_not {s sub : List UInt8} {c : UInt8} {t : List UInt8} (hs : sub = c :: t) (j : Nat) (h : s[j]? ≠ some c) : Lib.occAt s sub j = false := by
  cases ho : Lib.occAt s sub j with
  | false => rfl
  | true => exact absurd (Lib.occAt_head hs ho) h
theorem index_one (a b : List UInt8) (c : UInt8) (ha : c ∉ a) : Lib.index (a ++ c :: b) [c] = (a.length : Int) := by
  refine Lib.index_first (i := a.length) (by simp) ?_ (fun j hj => occ_not rfl j ?_)
  · simp [Lib.occAt]
  · rw [List.getElem?_append_left hj]
    intro h
    exact ha (List.mem_of_getElem? h)
theorem index_two (a b : List UInt8) (c d : UInt8) (ha : c ∉ a) : Lib.index (a ++ c :: d :: b) [c, d] = (a.length : Int) := by
  refine Lib.index_first (i := a.length) (by simp) ?_ (fun j hj => occ_not rfl j ?_)
  · simp [Lib.occAt]
  · rw [List.getElem?_append_left hj]
    intro h
    exact ha (List.mem_of_getElem? h)
theorem index_no (a : List UInt8) (c : UInt8) (t : List UInt8) (ha : c ∉ a) : Lib.index a (c :: t) = -1 := by
  refine Lib.index_none (fun j _ => occ_not rfl j ?_)
  intro h
  exact ha (List.mem_of_getElem? h)
theorem cut_one (a b : List UInt8) (c : UInt8) (ha : c ∉ a) : Lib.cut (a ++ c :: b) [c] = (a, b, true) := by
  unfold Lib.cut
  rw [index_one a b c ha, if_pos (by omega), Int.toNat_natCast, List.take_left' rfl]
  simp
theorem cut_no (a : List UInt8) (c : UInt8) (ha : c ∉ a) : Lib.cut a [c] = (a, [], false) := by
  unfold Lib.cut
  rw [index_no a c [] ha, if_neg (by omega)]
theorem Cut_is (s sep : List UInt8) (hs : s.length < 4294967281) : strings_Cut.f (B s) (B sep) = some (B (Lib.cut s sep).1, B (Lib.cut s sep).2.1, (Lib.cut s sep).2.2) := by
  unfold strings_Cut.f
  rw [if_pos (by rw [B_size]; exact hs), B_list, B_list]
  rfl
/-- the lines -/
theorem split_more (a b : List UInt8) (ha : (13 : UInt8) ∉ a) : Lib.split (a ++ 13 :: 10 :: b) [13, 10] = a :: Lib.split b [13, 10] := by
  have h := index_two a b 13 10 ha
  unfold Lib.split
  rw [Lib.count_hit (by simp) h, Nat.add_comm]
  have hd : (a ++ 13 :: 10 :: b).drop (a.length + 2) = b := by simp
  simp only [Lib.splitK]
  rw [h, if_neg (by simp), Int.toNat_natCast, Nat.add_zero, List.take_left' rfl, show ([13, 10] : List UInt8).length = 2 from rfl, hd]
theorem split_last (a : List UInt8) (ha : (13 : UInt8) ∉ a) : Lib.split a [13, 10] = [a] := by
  unfold Lib.split
  rw [Lib.count_miss (index_no a 13 [10] ha)]
  rfl
theorem Split_is (s sep : List UInt8) (hs : s.length < 4294967281) (h1 : 1 ≤ sep.length) : strings_Split.f (B s) (B sep) = some ((Lib.split s sep).map B) := by
  unfold strings_Split.f
  rw [if_pos ⟨by rw [B_size]; exact hs, by rw [B_size]; exact h1⟩]
  congr 1
  have h := Lib.splitB_data (B sep) 0 (Lib.countB (B s) (B sep)) (B s)
  rw [B_list, B_list] at h
  have hc : Lib.countB (B s) (B sep) = Lib.count s sep := by
    show Lib.count _ _ = _
    rw [B_list, B_list]
  unfold Lib.split
  rw [← hc, ← h, List.map_map]
  conv => lhs; rw [← List.map_id (Lib.splitB (B sep) 0 (Lib.countB (B s) (B sep)) (B s))]
  apply List.map_congr_left
  intro x _
  exact (B_of x).symm
/-! bytes -/
theorem N8_B (l : List UInt8) : bytesOf (B l) = l.map (fun b => (b.toNat : Int)) := by rw [bytesOf, B_list]
theorem N8_back (l : List UInt8) : Lib.bytesOf (l.map (fun b => (b.toNat : Int))) = l := by
  unfold Lib.bytesOf
  rw [List.map_map]
  conv => rhs; rw [← List.map_id l]
  apply List.map_congr_left
  intro b _
  simp
theorem strOf_N8 (l : List UInt8) : strOfNums (l.map (fun b => (b.toNat : Int))) = B l := by
  unfold strOfNums B
  congr 2
  exact N8_back l
theorem N8_all (l : List UInt8) : ((l.map (fun b => (b.toNat : Int))).all fun x => decide (0 ≤ x ∧ x < 256)) = true := by
  rw [List.all_eq_true]
  intro x hx
  obtain ⟨b, _, rfl⟩ := List.mem_map.1 hx
  have := b.toNat_lt
  exact decide_eq_true ⟨by omega, by omega⟩
theorem Index_is (l sub : List UInt8) (hl : l.length < 4294967281) (h2 : 2 ≤ sub.length) (h3 : sub.length ≤ 100) : bytes_Index.f (l.map (fun b => (b.toNat : Int))) (sub.map (fun b => (b.toNat : Int))) = some (Lib.index l sub) := by
  unfold bytes_Index.f
  rw [if_pos ⟨N8_all l, N8_all sub, by rw [List.length_map]; exact hl, by rw [List.length_map]; exact h2, by rw [List.length_map]; omega⟩, N8_back, N8_back]
theorem Lower_is (l : List UInt8) (hl : l.length ≤ 4294967296) : head_lower.f (B l) = some (B (l.map lowB)) := by
  unfold head_lower.f
  rw [if_pos (by rw [B_size]; omega), B_list]
  rfl
theorem Trim_is (l cs : List UInt8) (hl : l.length ≤ 4294967296) (hc : cs.length ≤ 100) (ha : cs.all (fun b => decide (b.toNat < 128)) = true) : strings_Trim.f (B l) (B cs) = some (B (Lib.trimS l cs)) := by
  unfold strings_Trim.f
  rw [if_pos ⟨by rw [B_size]; omega, by rw [B_size]; omega, by rw [B_list]; exact ha⟩, B_list, B_list]
  rfl
/-! tokens -/
def alB (b : UInt8) : Bool := decide (97 ≤ b.toNat ∧ b.toNat ≤ 122 ∨ 65 ≤ b.toNat ∧ b.toNat ≤ 90 ∨ 48 ≤ b.toNat ∧ b.toNat ≤ 57)
def tokB (b : UInt8) : Bool := alB b || decide (0 ≤ Lib.indexByte [33, 35, 36, 37, 38, 39, 42, 43, 45, 46, 94, 95, 96, 124, 126] b)
def tokOk (l : List UInt8) : Bool := l.all tokB && (l != [])
theorem alnum_is (b : UInt8) : head_alnum.f (b.toNat : Int) = some (alB b) := by
  unfold head_alnum.f alB
  repeat' split
  all_goals simp only [Option.some.injEq]
  all_goals first
    | (symm; rw [decide_eq_true_eq]; omega)
    | (rw [decide_eq_decide]; omega)
    | (symm; rw [decide_eq_false_iff_not]; omega)
theorem token_loop (l : List UInt8) (hl : l.length ≤ 4294967296) : ∀ (d i : Nat), i + d = l.length → Ev (fun k => head_token.l0 k (B l) (l.length : Int) (i : Int)) ((l.drop i).all tokB && (l != [])) := by
  intro d
  induction d with
  | zero =>
    intro i hi
    refine Ev.step (fun k => by simp only [head_token.l0]; rfl) (Ev.neg (by omega) (Ev.ret ?_))
    rw [B_toList, List.drop_eq_nil_of_le (by omega)]
    simp
  | succ d ih =>
    intro i hi
    have hlt : i < l.length := by omega
    have hw := wrap_succ i (by omega)
    have hd : l.drop i = l[i] :: l.drop (i + 1) := List.drop_eq_getElem_cons hlt
    have hx : (B l).extract (i : Int).toNat ((i + 1 : Nat) : Int).toNat = B [l[i]] := by
      rw [Int.toNat_natCast, Int.toNat_natCast, B_extract, hd, Nat.add_sub_cancel_left]
      rfl
    have hi' := ih (i + 1) (by omega)
    refine Ev.step (fun k => by simp only [head_token.l0]; rfl) ?_
    refine Ev.pos (by omega) (Ev.pos (by omega) (Ev.pos (by rw [B_size]; omega) ?_))
    rw [B_bt l i hlt, hw]
    refine Ev.call (alnum_is _) ?_
    rw [hd, List.all_cons]
    cases hA : alB l[i] with
    | true =>
      refine Ev.pos rfl ?_
      have ht : tokB l[i] = true := by simp [tokB, hA]
      rw [ht, Bool.true_and]
      exact hi'
    | false =>
      refine Ev.neg (by simp) (Ev.pos (by omega) (Ev.pos (by rw [B_size]; omega) ?_))
      rw [hx]
      have hc : strings_Contains.f (⟨#[33, 35, 36, 37, 38, 39, 42, 43, 45, 46, 94, 95, 96, 124, 126]⟩ : ByteArray) (B [l[i]]) = some (tokB l[i]) := by
        unfold strings_Contains.f
        rw [if_pos (by rw [B_size]; rfl), B_list]
        simp [tokB, hA]
      refine Ev.call hc ?_
      cases ht : tokB l[i] with
      | true => exact Ev.pos rfl (by rw [Bool.true_and]; exact hi')
      | false => exact Ev.neg (by simp) (Ev.ret (by simp))
theorem token_is (l : List UInt8) (hl : l.length ≤ 4294967296) : Ev (fun k => head_token.f k (B l)) (tokOk l) := by
  unfold head_token.f
  rw [B_size]
  exact token_loop l hl l.length 0 (by omega)
/-! values -/
def blankB (b : UInt8) : Bool := decide (b.toNat = 9 ∨ b.toNat = 32)
def valB (b : UInt8) : Bool := decide ((b.toNat = 9 ∨ 32 ≤ b.toNat) ∧ b.toNat ≠ 127)
def endsOk (l : List UInt8) : Bool := match l with
  | [] => true
  | x :: r => !blankB x && !blankB ((x :: r).getLastD 0)
def valOk (l : List UInt8) : Bool := l.all valB && endsOk l
theorem blank_is (b : UInt8) : head_blank.f (b.toNat : Int) = some (blankB b) := by
  unfold head_blank.f blankB
  split
  · rename_i h
    simp only [Option.some.injEq]
    symm
    rw [decide_eq_true_eq]
    omega
  · rename_i h
    simp only [Option.some.injEq]
    rw [show ((b.toNat : Int) == 32) = decide ((b.toNat : Int) = 32) from rfl, decide_eq_decide]
    omega
theorem value_loop (l : List UInt8) (hl : l.length ≤ 4294967296) : ∀ (d i : Nat), i + d = l.length → Ev (fun k => head_value.l0 k (B l) (l.length : Int) (i : Int)) ((l.drop i).all valB && endsOk l) := by
  intro d
  induction d with
  | zero =>
    intro i hi
    refine Ev.step (fun k => by simp only [head_value.l0]; rfl) (Ev.neg (by omega) ?_)
    rw [B_toList, List.drop_eq_nil_of_le (by omega), List.all_nil, Bool.true_and]
    cases hc : l with
    | nil => exact Ev.pos rfl (Ev.ret rfl)
    | cons x r =>
      have hE : endsOk (x :: r) = (!blankB x && !blankB (l.getLastD 0)) := by rw [hc]; rfl
      rw [hE, ← hc]
      clear hE
      have h0 : 0 < l.length := by rw [hc]; simp
      have hb0 : bt (B l) 0 = (x.toNat : Int) := by
        have := B_bt l 0 h0
        simpa [hc] using this
      have hw : wrap64 (((B l).size : Int) - 1) = ((l.length - 1 : Nat) : Int) := by rw [B_size]; unfold wrap64; omega
      have hbl : bt (B l) ((l.length - 1 : Nat) : Int) = ((l.getLastD 0).toNat : Int) := by
        rw [B_bt l (l.length - 1) (by omega)]
        congr 2
        rw [List.getLastD_eq_getLast?, List.getLast?_eq_getElem?, List.getElem?_eq_getElem (by omega)]
        rfl
      refine Ev.neg (by rw [hc]; simp) (Ev.pos (by rw [B_size]; omega) ?_)
      rw [hb0]
      refine Ev.call (blank_is x) ?_
      cases hx : blankB x with
      | true => exact Ev.pos rfl (Ev.ret rfl)
      | false =>
        refine Ev.neg (by simp) ?_
        rw [hw, hbl]
        exact Ev.pos (by omega) (Ev.pos (by rw [B_size]; omega) (Ev.call (blank_is _) (Ev.ret (by simp))))
  | succ d ih =>
    intro i hi
    have hlt : i < l.length := by omega
    have hw := wrap_succ i (by omega)
    have hd : l.drop i = l[i] :: l.drop (i + 1) := List.drop_eq_getElem_cons hlt
    have hi' := ih (i + 1) (by omega)
    refine Ev.step (fun k => by simp only [head_value.l0]; rfl) ?_
    refine Ev.pos (by omega) (Ev.pos (by omega) (Ev.pos (by rw [B_size]; omega) ?_))
    rw [B_bt l i hlt, hw, hd, List.all_cons]
    cases hv : valB l[i] with
    | true =>
      have hv' : (l[i].toNat = 9 ∨ 32 ≤ l[i].toNat) ∧ l[i].toNat ≠ 127 := of_decide_eq_true hv
      rw [Bool.true_and]
      by_cases h9 : (l[i].toNat : Int) = 9
      · exact Ev.pos h9 (Ev.neg (by omega) hi')
      · exact Ev.neg h9 (Ev.neg (by omega) (Ev.neg (by omega) hi'))
    | false =>
      have hv' : ¬ ((l[i].toNat = 9 ∨ 32 ≤ l[i].toNat) ∧ l[i].toNat ≠ 127) := of_decide_eq_false hv
      rw [Bool.false_and, Bool.false_and]
      by_cases h9 : (l[i].toNat : Int) = 9
      · exact absurd hv' (by omega)
      · refine Ev.neg h9 ?_
        by_cases h32 : (l[i].toNat : Int) < 32
        · exact Ev.pos h32 (Ev.ret rfl)
        · exact Ev.neg h32 (Ev.pos (by omega) (Ev.ret rfl))
theorem value_is (l : List UInt8) (hl : l.length ≤ 4294967296) : Ev (fun k => head_value.f k (B l)) (valOk l) := by
  unfold head_value.f
  rw [B_size]
  exact value_loop l hl l.length 0 (by omega)
end Go.Proofs.YtabkdmfnafeaeaaDoor.HP
namespace Go.Proofs.YtabkdmfnafeaeaaDoor.HP
open Go.RowKit Go.Proofs.YtabkdmfnafeaeaaDoor.R Go.Proofs.YtabkdmfnafeaeaaDoorW.PrintWords Go.Proofs.YtabkdmfnafeaeaaDoorW.PrintLast Go.Proofs.YtabkdmfnafeaeaaDoorW.PrintMore
/-! lines joined -/
def joinL : List (List UInt8) → List UInt8
  | [] => []
  | [a] => a
  | a :: b :: r => a ++ 13 :: 10 :: joinL (b :: r)
theorem split_join : ∀ (ls : List (List UInt8)), ls ≠ [] → (∀ a ∈ ls, (13 : UInt8) ∉ a) → Lib.split (joinL ls) [13, 10] = ls
  | [], h, _ => absurd rfl h
  | [a], _, h => split_last a (h a (by simp))
  | a :: b :: r, _, h => by
    show Lib.split (a ++ 13 :: 10 :: joinL (b :: r)) [13, 10] = _
    rw [split_more _ _ (h a (by simp)), split_join (b :: r) (by simp) (fun x hx => h x (by simp [hx]))]
theorem occ_first {s : List UInt8} {j : Nat} {t : List UInt8} (h : s[j]? ≠ some 13) : Lib.occAt s (13 :: t) j = false := occ_not rfl j h
theorem occ_drop (a s sub : List UInt8) (j : Nat) : Lib.occAt (a ++ s) sub (a.length + j) = Lib.occAt s sub j := by
  unfold Lib.occAt
  rw [List.drop_append, List.drop_eq_nil_of_le (by omega), List.nil_append, Nat.add_sub_cancel_left]
/-- within joined lines the end does not stand -/
theorem join_occ : ∀ (ls : List (List UInt8)), (∀ a ∈ ls, (13 : UInt8) ∉ a ∧ a ≠ []) → ∀ (z : List UInt8) (j : Nat), j < (joinL ls).length → Lib.occAt (joinL ls ++ 13 :: z) [13, 10, 13, 10] j = false
  | [], _, _, j, hj => absurd hj (by simp [joinL])
  | [a], h, z, j, hj => by
    have hj' : j < a.length := hj
    refine occ_first ?_
    show (a ++ 13 :: z)[j]? ≠ _
    rw [List.getElem?_append_left hj']
    exact fun he => (h a (by simp)).1 (List.mem_of_getElem? he)
  | a :: b :: r, h, z, j, hj => by
    have ih := join_occ (b :: r) (fun x hx => h x (by simp [hx])) z
    have hb := h b (by simp)
    have hne : ∃ x t, joinL (b :: r) = x :: t ∧ x ≠ 13 := by
      rcases hb2 : b with _ | ⟨x, t⟩
      · exact absurd hb2 hb.2
      · have hx : x ≠ 13 := fun hx => hb.1 (by rw [hb2, hx]; simp)
        cases r with
        | nil => exact ⟨x, t, rfl, hx⟩
        | cons c r => exact ⟨x, _, rfl, hx⟩
    obtain ⟨x, t, hx, hx13⟩ := hne
    have e : joinL (a :: b :: r) ++ 13 :: z = a ++ 13 :: 10 :: (joinL (b :: r) ++ 13 :: z) := by simp [joinL]
    rw [e]
    rcases Nat.lt_or_ge j a.length with h1 | h1
    · refine occ_first ?_
      rw [List.getElem?_append_left h1]
      exact fun he => (h a (by simp)).1 (List.mem_of_getElem? he)
    · obtain ⟨d, rfl⟩ : ∃ d, j = a.length + d := ⟨j - a.length, by omega⟩
      rw [occ_drop]
      rcases d with _ | _ | d
      · rw [hx]
        have hb2 : ((13 : UInt8) == x) = false := by simpa using fun h : (13 : UInt8) = x => hx13 h.symm
        show ([13, 10, 13, 10] : List UInt8).isPrefixOf (13 :: 10 :: x :: (t ++ 13 :: z)) = false
        simp only [List.isPrefixOf, hb2, Bool.false_and, Bool.and_false]
      · rw [hx]
        rfl
      · have e2 : Lib.occAt (13 :: 10 :: (joinL (b :: r) ++ 13 :: z)) [13, 10, 13, 10] (d + 1 + 1) = Lib.occAt (joinL (b :: r) ++ 13 :: z) [13, 10, 13, 10] d := rfl
        rw [e2]
        refine ih d ?_
        simp [joinL] at hj
        omega
theorem join_index (ls : List (List UInt8)) (h : ∀ a ∈ ls, (13 : UInt8) ∉ a ∧ a ≠ []) (z : List UInt8) : Lib.index (joinL ls ++ [13, 10, 13, 10] ++ z) [13, 10, 13, 10] = ((joinL ls).length : Int) := by
  have e : joinL ls ++ [13, 10, 13, 10] ++ z = joinL ls ++ 13 :: (10 :: 13 :: 10 :: z) := by simp
  rw [e]
  refine Lib.index_first (i := (joinL ls).length) (by simp) ?_ (fun j hj => join_occ ls h _ j hj)
  have := occ_drop (joinL ls) (13 :: (10 :: 13 :: 10 :: z)) [13, 10, 13, 10] 0
  rw [Nat.add_zero] at this
  rw [this]
  simp [Lib.occAt, List.isPrefixOf]
theorem join_flat : ∀ (ls : List (List UInt8)), ls ≠ [] → joinL ls ++ [13, 10] = ls.flatMap (fun a => a ++ [13, 10])
  | [], h => absurd rfl h
  | [a], _ => by simp [joinL]
  | a :: b :: r, _ => by
    have ih := join_flat (b :: r) (by simp)
    rw [List.flatMap_cons, ← ih]
    simp [joinL]
/-! fields -/
def hostL : List UInt8 := [104, 111, 115, 116]
def verL : List UInt8 := [72, 84, 84, 80, 47, 49, 46, 49]
def lineOf (f : List UInt8 × List UInt8) : List UInt8 := f.1 ++ 58 :: f.2
def low (f : List UInt8 × List UInt8) : List UInt8 := f.1.map lowB
def tv (f : List UInt8 × List UInt8) : List UInt8 := Lib.trimS f.2 [9, 32]
def fld (f : List UInt8 × List UInt8) : S38 := ⟨B (low f), B (tv f)⟩
def good (f : List UInt8 × List UInt8) : Prop := (lineOf f).length ≤ 1000000000 ∧ tokOk f.1 = true ∧ valOk (tv f) = true ∧ (13 : UInt8) ∉ f.2
theorem tok_no {n : List UInt8} (h : tokOk n = true) (c : UInt8) (hc : tokB c = false) : c ∉ n := by
  intro hm
  unfold tokOk at h
  rw [Bool.and_eq_true] at h
  have := (List.all_eq_true.1 h.1) c hm
  rw [hc] at this
  cases this
theorem trim_le (l cs : List UInt8) : (Lib.trimS l cs).length ≤ l.length := by
  have dw : ∀ (p : UInt8 → Bool) (l : List UInt8), (l.dropWhile p).length ≤ l.length := fun p l => (List.dropWhile_suffix p).length_le
  unfold Lib.trimS Lib.trimRightS Lib.trimLeftS
  first
    | (have h1 := dw (cs.contains ·) l; have h2 := dw (cs.contains ·) (l.dropWhile (cs.contains ·)).reverse; have h3 := dw (cs.contains ·) l.reverse; have h4 := dw (cs.contains ·) (l.reverse.dropWhile (cs.contains ·)).reverse; simp only [List.length_reverse] at *; omega)
def hosts (fs : List (List UInt8 × List UInt8)) : Nat := fs.countP (fun f => low f == hostL)
def hostOf (hx : List UInt8 → ByteArray) : ByteArray → List (List UInt8 × List UInt8) → ByteArray
  | h, [] => h
  | h, f :: fs => hostOf hx (if low f = hostL then hx (tv f) else h) fs
abbrev HR := ByteArray × ByteArray × ByteArray × ByteArray × List S38 × Int × Int
def errR (e : Int) : HR := (B [], B [], B [], B [], [], 0, e)
def fin (E : Int) (m p q hh : ByteArray) (n : Nat) (ho : ByteArray) (fl : List S38) : HR :=
  if n = 1 then (if 32 < fl.length then errR 6 else (m, p, q, if hh.toList = [] then ho else hh, fl, E + 4, 0)) else errR 4
set_option maxHeartbeats 4000000 in
theorem loop_is (E : Int) (hE : 0 ≤ E ∧ E ≤ 100000) (m p q hh : ByteArray) (hx : List UInt8 → ByteArray) (lines : List ByteArray) (hll : lines.length ≤ 100000) :
    ∀ (fs : List (List UInt8 × List UInt8)) (pre : List ByteArray) (n : Nat) (ho : ByteArray) (acc : List S38),
      lines = pre ++ fs.map (fun f => B (lineOf f)) → (∀ f ∈ fs, good f) → (∀ f ∈ fs, low f = hostL → Ev (fun k => head_Host.f k (B (tv f))) (hx (tv f), true)) →
      n ≤ pre.length → acc.length ≤ pre.length →
      Ev (fun k => head_Parse.l0 k E lines (n : Int) (pre.length : Int) ho m p q hh acc) (fin E m p q hh (n + hosts fs) (hostOf hx ho fs) (acc ++ fs.map fld)) := by
  intro fs
  induction fs with
  | nil =>
    intro pre n ho acc hl _ _ hn ha
    have hw : wrap64 (E + 4) = E + 4 := by unfold wrap64; omega
    rw [List.map_nil, List.append_nil] at hl
    subst hl
    refine Ev.step (fun k => by simp only [head_Parse.l0]; rfl) (Ev.neg (by omega) ?_)
    rw [show hosts [] = 0 from rfl, Nat.add_zero, List.map_nil, List.append_nil, hw]
    show Ev _ (fin E m p q hh n ho acc)
    unfold fin
    by_cases h1 : n = 1
    · rw [if_pos h1]
      refine Ev.pos (by omega) ?_
      by_cases h2 : 32 < acc.length
      · rw [if_pos h2]
        exact Ev.pos (by omega) (Ev.ret rfl)
      · rw [if_neg h2]
        refine Ev.neg (by omega) ?_
        by_cases h3 : hh.toList = []
        · rw [if_pos h3]
          simp only [if_pos h3]
          exact Ev.ret rfl
        · rw [if_neg h3]
          simp only [if_neg h3]
          exact Ev.ret rfl
    · rw [if_neg h1]
      exact Ev.neg (by omega) (Ev.ret rfl)
  | cons f fs ih =>
    intro pre n ho acc hl hg hh' hn ha
    obtain ⟨g1, g2, g3, g4⟩ := hg f (by simp)
    have hlen : pre.length + (fs.length + 1) = lines.length := by rw [hl]; simp
    have hrd : rdOf ByteArray.empty lines (pre.length : Int) = B (lineOf f) := by
      rw [hl]
      simp [rdOf]
    have l1 : f.1.length + 1 + f.2.length ≤ 1000000000 := by
      have := g1
      simp [lineOf] at this
      omega
    have c1 : strings_Cut.f (B (lineOf f)) (⟨#[58]⟩ : ByteArray) = some (B f.1, B f.2, true) := by
      have := Cut_is (lineOf f) [58] (by omega)
      rw [show Lib.cut (lineOf f) [58] = (f.1, f.2, true) from cut_one f.1 f.2 58 (tok_no g2 58 (by decide))] at this
      exact this
    have t1 : strings_Trim.f (B f.2) (⟨#[9, 32]⟩ : ByteArray) = some (B (tv f)) := Trim_is f.2 [9, 32] (by omega) (by decide) (by decide)
    have tk := token_is f.1 (by omega)
    rw [g2] at tk
    have htl := trim_le f.2 [9, 32]
    have vl := value_is (tv f) (by unfold tv; omega)
    rw [g3] at vl
    have lo : head_lower.f (B f.1) = some (B (low f)) := Lower_is f.1 (by omega)
    have hw1 : wrap64 ((pre.length : Int) + 1) = ((pre ++ [B (lineOf f)]).length : Int) := by
      rw [List.length_append]
      unfold wrap64
      simp
      omega
    have hw2 : wrap64 ((n : Int) + 1) = ((n + 1 : Nat) : Int) := by unfold wrap64; omega
    have hl' : lines = (pre ++ [B (lineOf f)]) ++ fs.map (fun f => B (lineOf f)) := by rw [hl]; simp
    have hg' : ∀ x ∈ fs, good x := fun x hx => hg x (by simp [hx])
    have hh2 : ∀ x ∈ fs, low x = hostL → Ev (fun k => head_Host.f k (B (tv x))) (hx (tv x), true) := fun x hx' => hh' x (by simp [hx'])
    have hp : (pre ++ [B (lineOf f)]).length = pre.length + 1 := by simp
    have hac2 : (acc ++ [fld f]).length ≤ (pre ++ [B (lineOf f)]).length := by rw [hp, List.length_append]; exact Nat.succ_le_succ ha
    have hn1 : n + 1 ≤ (pre ++ [B (lineOf f)]).length := by rw [hp]; exact Nat.succ_le_succ hn
    have hn0 : n ≤ (pre ++ [B (lineOf f)]).length := by rw [hp]; exact Nat.le_succ_of_le hn
    have hac : acc ++ (f :: fs).map fld = (acc ++ [fld f]) ++ fs.map fld := by simp
    refine Ev.step (fun k => by simp only [head_Parse.l0]; rfl) ?_
    refine Ev.pos (by omega) (Ev.pos (by omega) ?_)
    rw [hrd]
    refine Ev.call c1 (Ev.call t1 (Ev.pos rfl (Ev.bind tk (Ev.pos rfl (Ev.bind vl ?_)))))
    refine Ev.step (fun k => by simp only [head_Parse.j2]; rfl) ?_
    refine Ev.neg (by decide) (Ev.call lo (Ev.pos (by omega) (Ev.put (Ev.call lo ?_))))
    rw [hac]
    by_cases hq : low f = hostL
    · refine Ev.pos (by rw [B_toList]; exact hq) (Ev.bind (hh' f (by simp) hq) (Ev.pos rfl ?_))
      have h := ih (pre ++ [B (lineOf f)]) (n + 1) (hx (tv f)) (acc ++ [fld f]) hl' hg' hh2 hn1 hac2
      rw [show hostOf hx ho (f :: fs) = hostOf hx (hx (tv f)) fs by simp [hostOf, hq], show n + hosts (f :: fs) = n + 1 + hosts fs by simp [hosts, hq]; omega]
      rw [hw1, hw2]
      exact h
    · refine Ev.neg (by rw [B_toList]; exact hq) ?_
      have h := ih (pre ++ [B (lineOf f)]) n ho (acc ++ [fld f]) hl' hg' hh2 hn0 hac2
      rw [show hostOf hx ho (f :: fs) = hostOf hx ho fs by simp [hostOf, hq], show n + hosts (f :: fs) = n + hosts fs by simp [hosts, hq]]
      rw [hw1]
      exact h
def firstL (m t : List UInt8) : List UInt8 := m ++ 32 :: (t ++ 32 :: verL)
def linesL (m t : List UInt8) (fs : List (List UInt8 × List UInt8)) : List (List UInt8) := firstL m t :: fs.map lineOf
def headL (m t : List UInt8) (fs : List (List UInt8 × List UInt8)) : List UInt8 := joinL (linesL m t fs) ++ [13, 10, 13, 10]
theorem lines_ok (m t : List UInt8) (fs : List (List UInt8 × List UInt8)) (hm : tokOk m = true) (ht : (13 : UInt8) ∉ t) (hg : ∀ f ∈ fs, good f) : ∀ a ∈ linesL m t fs, (13 : UInt8) ∉ a ∧ a ≠ [] := by
  intro a ha
  rcases List.mem_cons.1 ha with rfl | ha
  · have h13 := tok_no hm 13 (by decide)
    refine ⟨?_, by simp [firstL]⟩
    simp [firstL, verL, h13, ht]
  · obtain ⟨f, hf, rfl⟩ := List.mem_map.1 ha
    obtain ⟨g1, g2, g3, g4⟩ := hg f hf
    have h13 := tok_no g2 13 (by decide)
    exact ⟨by simp [lineOf, h13, g4], by simp [lineOf]⟩
theorem head_flat (m t : List UInt8) (fs : List (List UInt8 × List UInt8)) : headL m t fs = (linesL m t fs).flatMap (fun a => a ++ [13, 10]) ++ [13, 10] := by
  rw [← join_flat _ (by simp [linesL])]
  simp [headL]
/-- THE LAW: what Parse tells of well-formed lines -/
theorem parse_is (m t : List UInt8) (p q hh : ByteArray) (fs : List (List UInt8 × List UInt8)) (hx : List UInt8 → ByteArray) (z : List UInt8) (hz : z.length ≤ 1000000000)
    (hm : tokOk m = true) (ht13 : (13 : UInt8) ∉ t) (ht32 : (32 : UInt8) ∉ t) (ht : Ev (fun k => head_target.f k (B t)) (p, q, hh, true))
    (hg : ∀ f ∈ fs, good f) (hh' : ∀ f ∈ fs, low f = hostL → Ev (fun k => head_Host.f k (B (tv f))) (hx (tv f), true)) (hL : (headL m t fs).length ≤ 2048) (hn : fs.length ≤ 5000) :
    Ev (fun k => head_Parse.f k (bytesOf (B (headL m t fs ++ z)))) (fin ((joinL (linesL m t fs)).length : Int) (B m) p q hh (hosts fs) (hostOf hx (B []) fs) (fs.map fld)) := by
  have hok := lines_ok m t fs hm ht13 hg
  have hlen : (headL m t fs).length = (joinL (linesL m t fs)).length + 4 := by simp [headL]
  generalize hN : (headL m t fs ++ z).length = N
  have hN2 : N = (headL m t fs).length + z.length := by rw [← hN, List.length_append]
  have hl : ((headL m t fs ++ z).map (fun b => (b.toNat : Int))).length = N := by rw [List.length_map, hN]
  obtain ⟨M, hM, hM1, hM2⟩ : ∃ M : Nat, mn (N : Int) 2048 = (M : Int) ∧ M ≤ N ∧ (headL m t fs).length ≤ M := by
    unfold mn
    split
    · exact ⟨2048, rfl, by omega, by omega⟩
    · exact ⟨N, rfl, Nat.le_refl _, by omega⟩
  unfold head_Parse.f
  rw [N8_B, hl, hM]
  refine Ev.pos (by omega) (Ev.pos (by omega) ?_)
  rw [Int.toNat_natCast, ← List.map_take]
  have htk : (headL m t fs ++ z).take M = joinL (linesL m t fs) ++ [13, 10, 13, 10] ++ z.take (M - (headL m t fs).length) := by
    rw [List.take_append, List.take_of_length_le hM2]
    rfl
  have hix : bytes_Index.f (((headL m t fs ++ z).take M).map (fun b => (b.toNat : Int))) ([13, 10, 13, 10] : List Int) = some ((joinL (linesL m t fs)).length : Int) := by
    rw [show ([13, 10, 13, 10] : List Int) = ([13, 10, 13, 10] : List UInt8).map (fun b => (b.toNat : Int)) from rfl, Index_is _ _ (by rw [List.length_take]; omega) (by decide) (by decide), htk, join_index _ hok]
  refine Ev.call hix (Ev.neg (by omega) (Ev.pos (by omega) (Ev.pos (by omega) ?_)))
  rw [Int.toNat_natCast, ← List.map_take, strOf_N8]
  have htj : (headL m t fs ++ z).take (joinL (linesL m t fs)).length = joinL (linesL m t fs) := by
    unfold headL
    rw [List.append_assoc, List.take_left]
  rw [htj]
  have hsp : strings_Split.f (B (joinL (linesL m t fs))) (⟨#[13, 10]⟩ : ByteArray) = some (B (firstL m t) :: fs.map (fun f => B (lineOf f))) := by
    have := Split_is (joinL (linesL m t fs)) [13, 10] (by omega) (by decide)
    rw [split_join _ (by simp [linesL]) (fun a ha => (hok a ha).1)] at this
    rw [show (linesL m t fs).map B = B (firstL m t) :: fs.map (fun f => B (lineOf f)) by simp [linesL]] at this
    exact this
  have hfl : (firstL m t).length ≤ (joinL (linesL m t fs)).length := by
    unfold linesL
    cases fs.map lineOf with
    | nil => exact Nat.le_refl _
    | cons b r => simp [joinL]
  have hfl2 : (t ++ 32 :: verL).length ≤ (firstL m t).length := by simp [firstL]; omega
  have c1 : strings_Cut.f (B (firstL m t)) (⟨#[32]⟩ : ByteArray) = some (B m, B (t ++ 32 :: verL), true) := by
    have := Cut_is (firstL m t) [32] (by omega)
    rw [show Lib.cut (firstL m t) [32] = (m, t ++ 32 :: verL, true) from cut_one _ _ 32 (tok_no hm 32 (by decide))] at this
    exact this
  have c2 : strings_Cut.f (B (t ++ 32 :: verL)) (⟨#[32]⟩ : ByteArray) = some (B t, B verL, true) := by
    have := Cut_is (t ++ 32 :: verL) [32] (by omega)
    rw [cut_one _ _ 32 ht32] at this
    exact this
  have hml : m.length ≤ (firstL m t).length := by simp [firstL]
  have tk := token_is m (by omega)
  rw [hm] at tk
  refine Ev.call hsp (Ev.pos (by simp) (Ev.call c1 (Ev.call c2 (Ev.bind ht (Ev.pos rfl (Ev.bind tk (Ev.pos rfl ?_)))))))
  refine Ev.step (fun k => by simp only [head_Parse.j0]; rfl) ?_
  refine Ev.neg (by rw [B_toList]; decide) ?_
  have h := loop_is ((joinL (linesL m t fs)).length : Int) ⟨by omega, by omega⟩ (B m) p q hh hx (B (firstL m t) :: fs.map (fun f => B (lineOf f))) (by simp; omega) fs [B (firstL m t)] 0 (B []) [] rfl hg hh' (by omega) (by simp)
  rw [Nat.zero_add, List.nil_append] at h
  exact h
end Go.Proofs.YtabkdmfnafeaeaaDoor.HP
namespace Go.Proofs.YtabkdmfnafeaeaaDoor.HP
open Go.RowKit Go.Proofs.YtabkdmfnafeaeaaDoor.R Go.Proofs.YtabkdmfnafeaeaaDoorW.PrintWords Go.Proofs.YtabkdmfnafeaeaaDoorW.PrintLast Go.Proofs.YtabkdmfnafeaeaaDoorW.PrintMore
theorem wrap_nat (i : Nat) (h : i < 9223372036854775807) : wrap64 (i : Int) = (i : Int) := by unfold wrap64; omega
/-! paths and queries -/
def hexB (b : UInt8) : Bool := decide (48 ≤ b.toNat ∧ b.toNat ≤ 57 ∨ 97 ≤ b.toNat ∧ b.toNat ≤ 102 ∨ 65 ≤ b.toNat ∧ b.toNat ≤ 70)
def pchB (b : UInt8) : Bool := alB b || decide (0 ≤ Lib.indexByte [47, 45, 46, 95, 126, 33, 36, 38, 39, 40, 41, 42, 43, 44, 59, 61, 58, 64] b)
def two : List UInt8 → Bool
  | a :: b :: _ => hexB a && hexB b
  | _ => false
theorem two_short : ∀ (l : List UInt8), l.length < 2 → two l = false
  | [], _ => rfl
  | [_], _ => rfl
  | _ :: _ :: _, h => by simp at h; omega
def atB (q : Bool) : List UInt8 → Bool
  | [] => true
  | c :: r => if c.toNat = 37 then two r else if c.toNat = 63 ∧ q = true then true else pchB c
theorem atB_cons (q : Bool) (c : UInt8) (r : List UInt8) : atB q (c :: r) = if c.toNat = 37 then two r else if c.toNat = 63 ∧ q = true then true else pchB c := rfl
def suchL (q : Bool) : List UInt8 → Bool
  | [] => true
  | c :: r => atB q (c :: r) && suchL q r
theorem hex_is (b : UInt8) : head_hex.f (b.toNat : Int) = some (hexB b) := by
  unfold head_hex.f hexB
  repeat' split
  all_goals simp only [Option.some.injEq]
  all_goals first
    | (symm; rw [decide_eq_true_eq]; omega)
    | (rw [decide_eq_decide]; omega)
    | (symm; rw [decide_eq_false_iff_not]; omega)
theorem such_loop (q : Bool) (l : List UInt8) (hl : l.length ≤ 4294967296) : ∀ (d i : Nat), i + d = l.length → Ev (fun k => head_such.l0 k (B l) q (i : Int)) (suchL q (l.drop i)) := by
  intro d
  induction d with
  | zero =>
    intro i hi
    refine Ev.step (fun k => by simp only [head_such.l0]; rfl) (Ev.neg (by rw [B_size]; omega) (Ev.ret ?_))
    rw [List.drop_eq_nil_of_le (by omega)]
    rfl
  | succ d ih =>
    intro i hi
    have hlt : i < l.length := by omega
    have hw := wrap_succ i (by omega)
    have hw2 : wrap64 ((i : Int) + 2) = ((i + 2 : Nat) : Int) := by unfold wrap64; omega
    have hd : l.drop i = l[i] :: l.drop (i + 1) := List.drop_eq_getElem_cons hlt
    have hi' := ih (i + 1) (by omega)
    have hx : (B l).extract (i : Int).toNat ((i + 1 : Nat) : Int).toNat = B [l[i]] := by
      rw [Int.toNat_natCast, Int.toNat_natCast, B_extract, hd, Nat.add_sub_cancel_left]
      rfl
    have hc : strings_Contains.f (⟨#[47, 45, 46, 95, 126, 33, 36, 38, 39, 40, 41, 42, 43, 44, 59, 61, 58, 64]⟩ : ByteArray) (B [l[i]]) = some (decide (0 ≤ Lib.indexByte [47, 45, 46, 95, 126, 33, 36, 38, 39, 40, 41, 42, 43, 44, 59, 61, 58, 64] l[i])) := by
      unfold strings_Contains.f
      rw [if_pos (by rw [B_size]; rfl), B_list]
      rfl
    have hws : wrap64 (((B l).size : Int) - (i : Int)) = ((l.length - i : Nat) : Int) := by rw [B_size]; unfold wrap64; omega
    rw [hd]
    show Ev _ (atB q (l[i] :: l.drop (i + 1)) && suchL q (l.drop (i + 1)))
    have hJ2 : l[i].toNat ≠ 37 → ¬ (l[i].toNat = 63 ∧ q = true) → Ev (fun k => head_such.j2 k (B l) q (i : Int) (l[i].toNat : Int)) (atB q (l[i] :: l.drop (i + 1)) && suchL q (l.drop (i + 1))) := by
      intro h37 h63
      refine Ev.step (fun k => by simp only [head_such.j2]; rfl) ?_
      refine Ev.call (alnum_is _) ?_
      have hat : atB q (l[i] :: l.drop (i + 1)) = pchB l[i] := by
        rw [atB_cons, if_neg h37, if_neg h63]
      rw [hat, hw]
      cases hA : alB l[i] with
      | true =>
        have hp : pchB l[i] = true := by simp [pchB, hA]
        rw [hp, Bool.true_and]
        exact Ev.pos rfl hi'
      | false =>
        refine Ev.neg (by simp) (Ev.pos (by omega) (Ev.pos (by omega) (Ev.pos (by rw [B_size]; omega) ?_)))
        rw [hx]
        refine Ev.call hc ?_
        cases hD : decide (0 ≤ Lib.indexByte [47, 45, 46, 95, 126, 33, 36, 38, 39, 40, 41, 42, 43, 44, 59, 61, 58, 64] l[i]) with
        | true =>
          have hp : pchB l[i] = true := by simp only [pchB, hD, Bool.or_true]
          rw [hp, Bool.true_and]
          exact Ev.pos rfl hi'
        | false =>
          have hp : pchB l[i] = false := by simp only [pchB, hA, hD, Bool.or_false]
          rw [hp, Bool.false_and]
          exact Ev.neg (by simp) (Ev.ret rfl)
    refine Ev.step (fun k => by simp only [head_such.l0]; rfl) ?_
    refine Ev.pos (by rw [B_size]; omega) (Ev.pos (by omega) ?_)
    rw [B_bt l i hlt]
    by_cases h37 : l[i].toNat = 37
    · refine Ev.pos (by omega) ?_
      rw [hws]
      have hat : atB q (l[i] :: l.drop (i + 1)) = two (l.drop (i + 1)) := by
        rw [atB_cons, if_pos h37]
      rw [hat]
      by_cases h3 : l.length - i < 3
      · have hF : two (l.drop (i + 1)) = false := two_short _ (by rw [List.length_drop]; omega)
        rw [hF, Bool.false_and]
        refine Ev.pos (by omega) ?_
        refine Ev.step (fun k => by simp only [head_such.j1]; rfl) ?_
        exact Ev.pos (by trivial) (Ev.ret rfl)
      · have h1 : i + 1 < l.length := by omega
        have h2 : i + 2 < l.length := by omega
        have hd1 : l.drop (i + 1) = l[i + 1] :: l[i + 2] :: l.drop (i + 3) := by
          rw [List.drop_eq_getElem_cons h1, List.drop_eq_getElem_cons h2]
        have hM : two (l.drop (i + 1)) = (hexB l[i + 1] && hexB l[i + 2]) := by rw [hd1]; rfl
        rw [hM, hw, hw2]
        refine Ev.neg (by omega) (Ev.pos (by omega) (Ev.pos (by rw [B_size]; omega) ?_))
        rw [B_bt l (i + 1) h1]
        refine Ev.call (hex_is _) ?_
        cases hA : hexB l[i + 1] with
        | false =>
          refine Ev.neg (by simp) ?_
          rw [Bool.false_and, Bool.false_and]
          refine Ev.step (fun k => by simp only [head_such.j1]; rfl) ?_
          exact Ev.pos (by trivial) (Ev.ret rfl)
        | true =>
          refine Ev.pos rfl (Ev.pos (by omega) (Ev.pos (by rw [B_size]; omega) ?_))
          rw [B_bt l (i + 2) h2]
          refine Ev.call (hex_is _) ?_
          cases hA2 : hexB l[i + 2] with
          | false =>
            rw [Bool.and_false, Bool.false_and]
            refine Ev.step (fun k => by simp only [head_such.j1]; rfl) ?_
            exact Ev.pos (by trivial) (Ev.ret rfl)
          | true =>
            rw [Bool.and_true, Bool.true_and]
            refine Ev.step (fun k => by simp only [head_such.j1]; rfl) (Ev.neg (by decide) ?_)
            rw [hw]
            exact hi'
    · refine Ev.neg (by omega) ?_
      by_cases h63 : l[i].toNat = 63
      · refine Ev.pos (by omega) ?_
        by_cases hq : q = true
        · refine Ev.pos hq ?_
          have hat : atB q (l[i] :: l.drop (i + 1)) = true := by
            rw [atB_cons, if_neg h37, if_pos ⟨h63, hq⟩]
          rw [hat, Bool.true_and, hw]
          exact hi'
        · exact Ev.neg hq (hJ2 h37 (fun h => hq h.2))
      · exact Ev.neg (by omega) (hJ2 h37 (fun h => h63 h.1))
theorem such_is (q : Bool) (l : List UInt8) (hl : l.length ≤ 4294967296) : Ev (fun k => head_such.f k (B l) q) (suchL q l) := such_loop q l hl l.length 0 (by omega)
def pathL (l : List UInt8) : Bool := if Lib.hasPrefix l [47] = true then suchL false l else false
theorem path_is (l : List UInt8) (hl : l.length ≤ 4294967296) : Ev (fun k => head_path.f k (B l)) (pathL l) := by
  have hp : strings_HasPrefix.f (B l) (⟨#[47]⟩ : ByteArray) = some (Lib.hasPrefix l [47]) := by
    unfold strings_HasPrefix.f
    rw [B_list]
  unfold head_path.f pathL
  refine Ev.call hp ?_
  by_cases h : Lib.hasPrefix l [47] = true
  · rw [if_pos h]
    exact Ev.pos h (Ev.bind (such_is false l hl) (Ev.ret rfl))
  · rw [if_neg h]
    exact Ev.neg h (Ev.ret rfl)
theorem such_mem (q : Bool) : ∀ (l : List UInt8), suchL q l = true → ∀ c ∈ l, c.toNat = 37 ∨ (c.toNat = 63 ∧ q = true) ∨ pchB c = true
  | [], _, c, hc => by simp at hc
  | x :: r, h, c, hc => by
    have h' : (atB q (x :: r) && suchL q r) = true := h
    rw [Bool.and_eq_true] at h'
    rcases List.mem_cons.1 hc with rfl | hc
    · have ha : atB q (c :: r) = true := h'.1
      rw [atB_cons] at ha
      by_cases h37 : c.toNat = 37
      · exact .inl h37
      · rw [if_neg h37] at ha
        by_cases h63 : c.toNat = 63 ∧ q = true
        · exact .inr (.inl h63)
        · rw [if_neg h63] at ha
          exact .inr (.inr ha)
    · exact such_mem q r h'.2 c hc
theorem such_no (q : Bool) (l : List UInt8) (h : suchL q l = true) (c : UInt8) (h1 : c.toNat ≠ 37) (h2 : ¬ (c.toNat = 63 ∧ q = true)) (h3 : pchB c = false) : c ∉ l := by
  intro hc
  rcases such_mem q l h c hc with h' | h' | h'
  · exact h1 h'
  · exact h2 h'
  · rw [h3] at h'
    cases h'
theorem path_such {l : List UInt8} (h : pathL l = true) : suchL false l = true ∧ ∃ r, l = 47 :: r := by
  unfold pathL at h
  split at h
  · rename_i hp
    refine ⟨h, ?_⟩
    cases l with
    | nil => simp [Lib.hasPrefix] at hp
    | cons x r =>
      have : (47 : UInt8) = x := by simpa [Lib.hasPrefix, List.isPrefixOf] using hp
      exact ⟨r, by rw [← this]⟩
  · cases h
def tgt (p q : List UInt8) : List UInt8 := p ++ (if q = [] then [] else 63 :: q)
theorem target_is (p q : List UInt8) (hp : pathL p = true) (hq : suchL true q = true) (hl : p.length + q.length ≤ 1000000000) : Ev (fun k => head_target.f k (B (tgt p q))) (B p, B q, B [], true) := by
  obtain ⟨hs, r, hr⟩ := path_such hp
  have h63 : (63 : UInt8) ∉ p := such_no false p hs 63 (by decide) (by simp) (by decide)
  have hc : strings_Cut.f (B (tgt p q)) (⟨#[63]⟩ : ByteArray) = some (B p, B q, decide (q ≠ [])) := by
    have hle : (tgt p q).length < 4294967281 := by
      unfold tgt
      split <;> simp <;> omega
    have := Cut_is (tgt p q) [63] hle
    by_cases h : q = []
    · subst h
      rw [show tgt p [] = p by simp [tgt]] at this ⊢
      rw [cut_no p 63 h63] at this
      exact this
    · rw [show tgt p q = p ++ 63 :: q by simp [tgt, h]] at this ⊢
      rw [cut_one p q 63 h63] at this
      rw [show (⟨#[63]⟩ : ByteArray) = B [63] from rfl, this]
      simp [h]
  have hx : strings_CutPrefix.f (B p) (⟨#[104, 116, 116, 112, 58, 47, 47]⟩ : ByteArray) = some (B p, false) := by
    unfold strings_CutPrefix.f
    have hf : Lib.hasPrefix (B p).data.toList (⟨#[104, 116, 116, 112, 58, 47, 47]⟩ : ByteArray).data.toList = false := by
      rw [B_list, hr]
      rfl
    unfold Lib.trimPrefix
    rw [hf, if_neg (by simp), B_list]
    rfl
  unfold head_target.f
  refine Ev.call hc (Ev.call hx (Ev.neg (by simp) (Ev.bind (path_is p (by omega)) ?_)))
  rw [hp]
  refine Ev.pos rfl (Ev.bind (such_is true q (by omega)) ?_)
  rw [hq]
  exact Ev.ret rfl
/-! values, once more -/
theorem drop_head (p : UInt8 → Bool) (x : UInt8) (r : List UInt8) (h : p x = false) : (x :: r).dropWhile p = x :: r := by simp [h]
theorem trim_val (v : List UInt8) (hv : valOk v = true) : Lib.trimS (32 :: v) [9, 32] = v := by
  have hb : ∀ c : UInt8, blankB c = ([9, 32] : List UInt8).contains c := by
    intro c
    unfold blankB
    rw [Bool.eq_iff_iff, decide_eq_true_eq]
    simp only [List.contains_cons, List.contains_nil, Bool.or_false, Bool.or_eq_true, beq_iff_eq]
    constructor
    · rintro (h | h)
      · exact .inl (UInt8.toNat_inj.1 h)
      · exact .inr (UInt8.toNat_inj.1 h)
    · rintro (rfl | rfl)
      · exact .inl rfl
      · exact .inr rfl
  unfold valOk at hv
  rw [Bool.and_eq_true] at hv
  cases v with
  | nil => decide
  | cons x r =>
    have he : (!blankB x && !blankB ((x :: r).getLastD 0)) = true := hv.2
    rw [Bool.and_eq_true, Bool.not_eq_true', Bool.not_eq_true'] at he
    rw [hb, hb] at he
    have hl : (x :: r).getLastD 0 = (x :: r).getLast (by simp) := by simp [List.getLastD_eq_getLast?, List.getLast?_eq_some_getLast]
    rw [hl] at he
    have hrev : (32 :: x :: r).reverse = (x :: r).getLast (by simp) :: ((x :: r).dropLast.reverse ++ [32]) := by
      have : (x :: r).reverse = (x :: r).getLast (by simp) :: (x :: r).dropLast.reverse := by
        conv => lhs; rw [← List.dropLast_concat_getLast (l := x :: r) (by simp)]
        simp
      rw [List.reverse_cons, this, List.cons_append]
    unfold Lib.trimS Lib.trimRightS Lib.trimLeftS
    rw [hrev, drop_head _ _ _ he.2, ← hrev, List.reverse_reverse]
    have h32 : (32 :: x :: r).dropWhile (([9, 32] : List UInt8).contains ·) = (x :: r).dropWhile (([9, 32] : List UInt8).contains ·) := rfl
    rw [h32, drop_head _ _ _ he.1]
theorem val_no {v : List UInt8} (h : valOk v = true) (c : UInt8) (hc : valB c = false) : c ∉ v := by
  intro hm
  unfold valOk at h
  rw [Bool.and_eq_true] at h
  have := (List.all_eq_true.1 h.1) c hm
  rw [hc] at this
  cases this
theorem splitK_len (sub : List UInt8) : ∀ (k : Nat) (s : List UInt8), (Lib.splitK sub 0 k s).length ≤ k + 1 ∧ ∀ p ∈ Lib.splitK sub 0 k s, p.length ≤ s.length := by
  intro k
  induction k with
  | zero => intro s; simp [Lib.splitK]
  | succ k ih =>
    intro s
    simp only [Lib.splitK]
    split
    · simp
    · have h := ih (s.drop ((Lib.index s sub).toNat + sub.length))
      refine ⟨by simp only [List.length_cons]; omega, ?_⟩
      intro p hp
      rcases List.mem_cons.1 hp with rfl | hp
      · simp
        omega
      · have := h.2 p hp
        rw [List.length_drop] at this
        omega
theorem countFrom_le (sub : List UInt8) : ∀ (k : Nat) (s : List UInt8), Lib.countFrom sub k s ≤ k
  | 0, _ => Nat.le_refl _
  | k + 1, s => by
    unfold Lib.countFrom
    split
    · omega
    · have := countFrom_le sub k (s.drop ((Lib.index s sub).toNat + sub.length))
      omega
theorem split_len (s sub : List UInt8) : (Lib.split s sub).length ≤ s.length + 2 ∧ ∀ p ∈ Lib.split s sub, p.length ≤ s.length := by
  have h1 := splitK_len sub (Lib.count s sub) s
  have h2 : Lib.count s sub ≤ s.length + 1 := countFrom_le sub _ s
  unfold Lib.split
  exact ⟨by omega, h1.2⟩
end Go.Proofs.YtabkdmfnafeaeaaDoor.HP
namespace Go.Proofs.YtabkdmfnafeaeaaDoor.HP
open Go.RowKit Go.Proofs.YtabkdmfnafeaeaaDoor.R Go.Proofs.YtabkdmfnafeaeaaDoorW.PrintWords Go.Proofs.YtabkdmfnafeaeaaDoorW.PrintLast Go.Proofs.YtabkdmfnafeaeaaDoorW.PrintMore
theorem Ev.res {α : Type} {g : Nat → Option α} {a r : α} (h : Ev g a) (e : a = r) : Ev g r := e ▸ h
def hbB (b : UInt8) : Bool := alB b || decide (b.toNat = 45)
def partOk (p : List UInt8) : Bool := p.all hbB && (p != [])
def hostS (l : List UInt8) : List UInt8 × Bool :=
  if (Lib.cut l [58]).2.1.all digB = true ∧ (Lib.cut l [58]).2.1.length ≤ 5 ∧ (Lib.cut l [58]).1.length ≤ 64 ∧ (Lib.split (Lib.cut l [58]).1 [46]).all partOk = true then ((Lib.cut l [58]).1.map lowB, true) else ([], false)
def hostR (l : List UInt8) : ByteArray × Bool := (B (hostS l).1, (hostS l).2)
theorem hostP_is (x4 : ByteArray) (parts : List ByteArray) (n i : Int) (p : List UInt8) (hl : p.length ≤ 4294967296) (r : ByteArray × Bool)
    (h : Ev (fun k => head_HostX.l0 k x4 parts n (wrap64 (i + 1))) r) : ∀ (d j : Nat), j + d = p.length → Ev (fun k => head_HostX.l1 k x4 (B p) parts n i (p.length : Int) (j : Int)) (if ((p.drop j).all hbB && (p != [])) = true then r else (B [], false)) := by
  intro d
  induction d with
  | zero =>
    intro j hj
    rw [List.drop_eq_nil_of_le (by omega), List.all_nil, Bool.true_and]
    by_cases hp : p = []
    · rw [if_neg (by simp [hp])]
      exact Ev.step (fun k => by simp only [head_HostX.l1]; rfl) (Ev.neg (by omega) (Ev.pos (by rw [B_toList]; exact hp) (Ev.ret rfl)))
    · rw [if_pos (by simp [hp])]
      exact Ev.step (fun k => by simp only [head_HostX.l1]; rfl) (Ev.neg (by omega) (Ev.neg (by rw [B_toList]; exact hp) h))
  | succ d ih =>
    intro j hj
    have hr := ih (j + 1) (by omega)
    have hw := wrap_succ j (by omega)
    rw [← hw] at hr
    have hlt : j < p.length := by omega
    have hb := B_bt p j hlt
    have hd : p.drop j = p[j] :: p.drop (j + 1) := List.drop_eq_getElem_cons hlt
    rw [hd, List.all_cons]
    refine Ev.step (fun k => by simp only [head_HostX.l1]; rfl) (Ev.pos (by omega) (Ev.pos (by omega) (Ev.pos (by rw [B_size]; omega) ?_)))
    rw [hb]
    refine Ev.call (alnum_is _) ?_
    cases hA : alB p[j] with
    | true =>
      rw [show hbB p[j] = true by simp [hbB, hA], Bool.true_and]
      exact Ev.pos rfl hr
    | false =>
      refine Ev.neg (by simp) ?_
      by_cases h45 : p[j].toNat = 45
      · rw [show hbB p[j] = true by simp [hbB, h45], Bool.true_and]
        exact Ev.pos (by omega) hr
      · rw [show hbB p[j] = false by simp [hbB, hA, h45], Bool.false_and, Bool.false_and, if_neg (by simp)]
        exact Ev.neg (by omega) (Ev.ret rfl)
theorem hostL_is (h : List UInt8) (hh : h.length ≤ 4294967296) (ps : List (List UInt8)) (hps : ps.length ≤ 4294967296) (hb : ∀ p ∈ ps, p.length ≤ 4294967296) :
    ∀ (d i : Nat), i + d = ps.length → Ev (fun k => head_HostX.l0 k (B h) (ps.map B) (ps.length : Int) (i : Int)) (if (ps.drop i).all partOk = true then (B (h.map lowB), true) else (B [], false)) := by
  intro d
  induction d with
  | zero =>
    intro i hi
    rw [List.drop_eq_nil_of_le (by omega), List.all_nil, if_pos rfl]
    exact Ev.step (fun k => by simp only [head_HostX.l0]; rfl) (Ev.neg (by omega) (Ev.call (Lower_is h hh) (Ev.ret rfl)))
  | succ d ih =>
    intro i hi
    have hw := wrap_succ i (by omega)
    have hlt : i < ps.length := by omega
    have h1 := ih (i + 1) (by omega)
    rw [← hw] at h1
    have hr := hostP_is (B h) (ps.map B) (ps.length : Int) (i : Int) ps[i] (hb _ (List.getElem_mem hlt)) _ h1 ps[i].length 0 (by omega)
    have hrd : rdOf ByteArray.empty (ps.map B) (i : Int) = B ps[i] := by simp [rdOf, hlt]
    have hd : ps.drop i = ps[i] :: ps.drop (i + 1) := List.drop_eq_getElem_cons hlt
    refine Ev.step (fun k => by simp only [head_HostX.l0]; rfl) (Ev.pos (by omega) (Ev.pos (by omega) (Ev.pos (by rw [List.length_map]; omega) ?_)))
    rw [hrd, B_size, hd, List.all_cons]
    rw [List.drop_zero] at hr
    refine Ev.res hr ?_
    show (if partOk ps[i] = true then _ else _) = _
    cases partOk ps[i] <;> simp
theorem hostX_is (l : List UInt8) (hl : l.length ≤ 1000000000) (hd : (Lib.cut l [58]).2.1.all digB = true) : Ev (fun k => head_HostX.f k (B l)) (hostR l) := by
  have hc : strings_Cut.f (B l) (⟨#[58]⟩ : ByteArray) = some (B (Lib.cut l [58]).1, B (Lib.cut l [58]).2.1, (Lib.cut l [58]).2.2) := Cut_is l [58] (by omega)
  have hle : (Lib.cut l [58]).1.length ≤ l.length := by
    unfold Lib.cut
    split
    · simp
      omega
    · exact Nat.le_refl _
  unfold hostR hostS
  generalize (Lib.cut l [58]).1 = h at hc hle ⊢
  generalize (Lib.cut l [58]).2.1 = port at hc hd ⊢
  unfold head_HostX.f
  by_cases h5 : port.length ≤ 5
  · by_cases h64 : h.length ≤ 64
    · refine Ev.call hc (Ev.neg (by rw [B_size]; omega) ?_)
      rw [show decide (((B h).size : Int) > 64) = false by rw [B_size]; exact decide_eq_false (by omega)]
      have hs : strings_Split.f (B h) (⟨#[46]⟩ : ByteArray) = some ((Lib.split h [46]).map B) := Split_is h [46] (by omega) (by decide)
      obtain ⟨s1, s2⟩ := split_len h [46]
      have hr := hostL_is h (by omega) (Lib.split h [46]) (by omega) (fun p hp => by have := s2 p hp; omega) (Lib.split h [46]).length 0 (by omega)
      rw [List.drop_zero] at hr
      refine Ev.step (fun k => by simp only [head_HostX.j0]; rfl) (Ev.neg (by simp) (Ev.call hs ?_))
      rw [List.length_map]
      refine Ev.res hr ?_
      by_cases hp : (Lib.split h [46]).all partOk = true
      · rw [if_pos hp, if_pos ⟨hd, h5, h64, hp⟩]
      · rw [if_neg hp, if_neg (fun hh => hp hh.2.2.2)]
    · rw [if_neg (fun hh => h64 hh.2.2.1)]
      refine Ev.call hc (Ev.neg (by rw [B_size]; omega) ?_)
      rw [show decide (((B h).size : Int) > 64) = true by rw [B_size]; exact decide_eq_true (by omega)]
      exact Ev.step (fun k => by simp only [head_HostX.j0]; rfl) (Ev.pos (by trivial) (Ev.ret rfl))
  · rw [if_neg (fun hh => h5 hh.2.1)]
    exact Ev.call hc (Ev.pos (by rw [B_size]; omega) (Ev.step (fun k => by simp only [head_HostX.j0]; rfl) (Ev.pos (by trivial) (Ev.ret rfl))))
/-- THE LAW: what Host tells -/
theorem host_is (l : List UInt8) (hl : l.length ≤ 1000000000) : Ev (fun k => head_Host.f k (B l)) (hostR l) := by
  have hc : strings_Cut.f (B l) (⟨#[58]⟩ : ByteArray) = some (B (Lib.cut l [58]).1, B (Lib.cut l [58]).2.1, (Lib.cut l [58]).2.2) := Cut_is l [58] (by omega)
  unfold head_Host.f
  by_cases h : (Lib.cut l [58]).2.1.all digB = true
  · exact Ev.call hc (Ev.pos (by rw [B_list]; exact h) (hostX_is l hl h))
  · refine Ev.call hc (Ev.neg (by rw [B_list]; exact h) (Ev.ret ?_))
    unfold hostR hostS
    rw [if_neg (fun hh => h hh.1)]
    rfl
/-! large and small letters -/
theorem low_iff (c : UInt8) (hc : alB c = false) (b : UInt8) : lowB b = c ↔ b = c := by
  revert hc
  revert c b
  unfold lowB alB
  intro c b hc
  rw [decide_eq_false_iff_not] at hc
  by_cases hb : 65 ≤ b.toNat ∧ b.toNat ≤ 90
  · rw [if_pos hb]
    have hn : (b + 32).toNat = b.toNat + 32 := by rw [UInt8.toNat_add]; simp; omega
    constructor
    · rintro rfl
      rw [hn] at hc
      omega
    · rintro rfl
      omega
  · rw [if_neg hb]
theorem low_al (b : UInt8) : alB (lowB b) = alB b := by
  unfold lowB alB
  by_cases hb : 65 ≤ b.toNat ∧ b.toNat ≤ 90
  · have hn : (b + 32).toNat = b.toNat + 32 := by rw [UInt8.toNat_add]; simp; omega
    rw [if_pos hb, hn, decide_eq_decide]
    omega
  · rw [if_neg hb]
theorem low_small (b : UInt8) (n : Nat) (hn : n < 65) : (lowB b).toNat = n ↔ b.toNat = n := by
  unfold lowB
  by_cases hb : 65 ≤ b.toNat ∧ b.toNat ≤ 90
  · have hn : (b + 32).toNat = b.toNat + 32 := by rw [UInt8.toNat_add]; simp; omega
    rw [if_pos hb, hn]
    omega
  · rw [if_neg hb]
theorem low_low (b : UInt8) : lowB (lowB b) = lowB b := by
  unfold lowB
  by_cases hb : 65 ≤ b.toNat ∧ b.toNat ≤ 90
  · have hn : (b + 32).toNat = b.toNat + 32 := by rw [UInt8.toNat_add]; simp; omega
    rw [if_pos hb, hn, if_neg (by omega)]
  · rw [if_neg hb, if_neg hb]
theorem low_dig (b : UInt8) : digB (lowB b) = digB b := by
  unfold lowB digB
  by_cases hb : 65 ≤ b.toNat ∧ b.toNat ≤ 90
  · have hn : (b + 32).toNat = b.toNat + 32 := by rw [UInt8.toNat_add]; simp; omega
    rw [if_pos hb, hn, decide_eq_decide]
    omega
  · rw [if_neg hb]
theorem low_hb (b : UInt8) : hbB (lowB b) = hbB b := by
  unfold hbB
  rw [low_al]
  congr 1
  rw [decide_eq_decide]
  exact low_small b 45 (by omega)
/-! cuts and splits at one byte, by recursion -/
def cutC (c : UInt8) : List UInt8 → List UInt8 × List UInt8 × Bool
  | [] => ([], [], false)
  | b :: l => if b = c then ([], l, true) else (b :: (cutC c l).1, (cutC c l).2)
def splitC (c : UInt8) : List UInt8 → List (List UInt8)
  | [] => [[]]
  | b :: l => if b = c then [] :: splitC c l else match splitC c l with
    | [] => [[b]]
    | x :: r => (b :: x) :: r
theorem at_first (c : UInt8) : ∀ (s : List UInt8), c ∉ s ∨ ∃ a b, s = a ++ c :: b ∧ c ∉ a
  | [] => .inl (by simp)
  | x :: s => by
    by_cases hx : x = c
    · exact .inr ⟨[], s, by simp [hx], by simp⟩
    · rcases at_first c s with h | ⟨a, b, rfl, ha⟩
      · exact .inl (by simp [h]; exact fun e => hx e.symm)
      · exact .inr ⟨x :: a, b, rfl, by simp [ha]; exact fun e => hx e.symm⟩
theorem cutC_no (c : UInt8) : ∀ (a : List UInt8), c ∉ a → cutC c a = (a, [], false)
  | [], _ => rfl
  | x :: a, h => by
    have hx : x ≠ c := fun e => h (by simp [e])
    rw [cutC, if_neg hx, cutC_no c a (fun hm => h (by simp [hm]))]
theorem cutC_one (c : UInt8) (b : List UInt8) : ∀ (a : List UInt8), c ∉ a → cutC c (a ++ c :: b) = (a, b, true)
  | [], _ => by simp [cutC]
  | x :: a, h => by
    have hx : x ≠ c := fun e => h (by simp [e])
    rw [List.cons_append, cutC, if_neg hx, cutC_one c b a (fun hm => h (by simp [hm]))]
theorem cut_is (c : UInt8) (s : List UInt8) : Lib.cut s [c] = cutC c s := by
  rcases at_first c s with h | ⟨a, b, rfl, ha⟩
  · rw [cut_no s c h, cutC_no c s h]
  · rw [cut_one a b c ha, cutC_one c b a ha]
theorem splitC_no (c : UInt8) : ∀ (a : List UInt8), c ∉ a → splitC c a = [a]
  | [], _ => rfl
  | x :: a, h => by
    have hx : x ≠ c := fun e => h (by simp [e])
    rw [splitC, if_neg hx, splitC_no c a (fun hm => h (by simp [hm]))]
theorem splitC_one (c : UInt8) (b : List UInt8) : ∀ (a : List UInt8), c ∉ a → splitC c (a ++ c :: b) = a :: splitC c b
  | [], _ => by simp [splitC]
  | x :: a, h => by
    have hx : x ≠ c := fun e => h (by simp [e])
    rw [List.cons_append, splitC, if_neg hx, splitC_one c b a (fun hm => h (by simp [hm]))]
theorem split_one (a b : List UInt8) (c : UInt8) (ha : c ∉ a) : Lib.split (a ++ c :: b) [c] = a :: Lib.split b [c] := by
  have h := index_one a b c ha
  unfold Lib.split
  rw [Lib.count_hit (by simp) h, Nat.add_comm]
  have hd : (a ++ c :: b).drop (a.length + 1) = b := by simp
  simp only [Lib.splitK]
  rw [h, if_neg (by simp), Int.toNat_natCast, Nat.add_zero, List.take_left' rfl, show ([c] : List UInt8).length = 1 from rfl, hd]
theorem split_one_no (a : List UInt8) (c : UInt8) (ha : c ∉ a) : Lib.split a [c] = [a] := by
  unfold Lib.split
  rw [Lib.count_miss (index_no a c [] ha)]
  rfl
theorem split_is (c : UInt8) : ∀ (n : Nat) (s : List UInt8), s.length ≤ n → Lib.split s [c] = splitC c s := by
  intro n
  induction n with
  | zero =>
    intro s hs
    have : s = [] := List.eq_nil_of_length_eq_zero (by omega)
    subst this
    exact split_one_no [] c (by simp)
  | succ n ih =>
    intro s hs
    rcases at_first c s with h | ⟨a, b, rfl, ha⟩
    · rw [split_one_no s c h, splitC_no c s h]
    · rw [split_one a b c ha, splitC_one c b a ha, ih b (by simp at hs; omega)]
theorem cutC_low (c : UInt8) (hc : alB c = false) : ∀ (s : List UInt8), cutC c (s.map lowB) = ((cutC c s).1.map lowB, (cutC c s).2.1.map lowB, (cutC c s).2.2)
  | [] => rfl
  | x :: s => by
    rw [List.map_cons, cutC, cutC, cutC_low c hc s]
    by_cases hx : x = c
    · rw [if_pos ((low_iff c hc x).2 hx), if_pos hx]
      rfl
    · rw [if_neg (fun h => hx ((low_iff c hc x).1 h)), if_neg hx]
      rfl
theorem splitC_low (c : UInt8) (hc : alB c = false) : ∀ (s : List UInt8), splitC c (s.map lowB) = (splitC c s).map (fun p => p.map lowB)
  | [] => rfl
  | x :: s => by
    rw [List.map_cons, splitC, splitC, splitC_low c hc s]
    by_cases hx : x = c
    · rw [if_pos ((low_iff c hc x).2 hx), if_pos hx]
      rfl
    · rw [if_neg (fun h => hx ((low_iff c hc x).1 h)), if_neg hx]
      cases splitC c s <;> rfl
theorem all_low (f : UInt8 → Bool) (hf : ∀ b, f (lowB b) = f b) (l : List UInt8) : (l.map lowB).all f = l.all f := by
  rw [List.all_map]
  congr 1
  funext b
  exact hf b
theorem part_low (p : List UInt8) : partOk (p.map lowB) = partOk p := by
  unfold partOk
  rw [all_low hbB low_hb]
  cases p <;> rfl
theorem map_low_low (l : List UInt8) : (l.map lowB).map lowB = l.map lowB := by
  rw [List.map_map]
  apply List.map_congr_left
  intro b _
  exact low_low b
theorem host_low (l : List UInt8) : hostS (l.map lowB) = hostS l := by
  unfold hostS
  rw [cut_is, cut_is, cutC_low 58 (by decide) l]
  simp only
  rw [all_low digB low_dig, List.length_map, List.length_map, split_is 46 _ _ (Nat.le_refl _), split_is 46 _ _ (Nat.le_refl _), splitC_low 46 (by decide), List.all_map, map_low_low]
  have : (partOk ∘ fun p => p.map lowB) = partOk := by funext p; exact part_low p
  rw [this]
theorem host_eq {a b : List UInt8} (h : a.map lowB = b.map lowB) : hostS a = hostS b := by rw [← host_low a, h, host_low]
end Go.Proofs.YtabkdmfnafeaeaaDoor.HP
namespace Go.Proofs.YtabkdmfnafeaeaaDoor.HP
open Go.RowKit Go.Proofs.YtabkdmfnafeaeaaDoor.R Go.Proofs.YtabkdmfnafeaeaaDoorW.PrintWords Go.Proofs.YtabkdmfnafeaeaaDoorW.PrintLast Go.Proofs.YtabkdmfnafeaeaaDoorW.PrintMore
abbrev Fd := List UInt8 × List UInt8
def sF (f : Fd) : S38 := ⟨B f.1, B f.2⟩
def fOk (hh : List UInt8) (f : Fd) : Bool := tokOk f.1 && decide (f.1.map lowB = f.1) && valOk f.2 && (decide (f.1 ≠ hostL) || decide (hostS f.2 = (hh, true)))
def wOk (m p q hh : List UInt8) (fs : List Fd) : Bool := tokOk m && pathL p && suchL true q && fs.all (fOk hh)
def nh (fs : List Fd) : Nat := fs.countP (fun f => decide (f.1 = hostL))
def wf (f : Fd) : Fd := (f.1, 32 :: f.2)
def writeL (m p q : List UInt8) (fs : List Fd) : List UInt8 := headL m (tgt p q) (fs.map wf)
def szF (fs : List Fd) : Nat := (fs.map (fun f => f.1.length + f.2.length + 4)).sum
theorem flat_len (fs : List Fd) : ((fs.map wf).map lineOf).flatMap (fun a => a ++ [13, 10]) = fs.flatMap (fun f => f.1 ++ 58 :: 32 :: (f.2 ++ [13, 10])) := by
  rw [List.flatMap_map, List.flatMap_map]
  congr 1
  funext f
  simp [lineOf, wf]
theorem writeL_flat (m p q : List UInt8) (fs : List Fd) : writeL m p q fs = (m ++ 32 :: (tgt p q ++ 32 :: (verL ++ [13, 10]))) ++ fs.flatMap (fun f => f.1 ++ 58 :: 32 :: (f.2 ++ [13, 10])) ++ [13, 10] := by
  unfold writeL
  rw [head_flat]
  unfold linesL
  rw [List.flatMap_cons, flat_len]
  simp [firstL]
theorem flat_sz (fs : List Fd) : (fs.flatMap (fun f => f.1 ++ 58 :: 32 :: (f.2 ++ [13, 10]))).length = szF fs := by
  induction fs with
  | nil => rfl
  | cons f fs ih =>
    rw [List.flatMap_cons, List.length_append, ih]
    simp [szF]
    omega
theorem writeL_length (m p q : List UInt8) (fs : List Fd) : (writeL m p q fs).length = m.length + (tgt p q).length + 12 + szF fs + 2 := by
  rw [writeL_flat, List.length_append, List.length_append, flat_sz]
  simp [verL]
  omega
theorem sz_mem {fs : List Fd} {f : Fd} (hf : f ∈ fs) : f.1.length + f.2.length + 4 ≤ szF fs := by
  induction fs with
  | nil => simp at hf
  | cons g fs ih =>
    rcases List.mem_cons.1 hf with rfl | h
    · simp [szF]
    · have := ih h
      simp [szF] at this ⊢
      omega
theorem fOk_host {hh : List UInt8} {f : Fd} (h : fOk hh f = true) (hn : f.1 = hostL) : hostS f.2 = (hh, true) := by
  simp only [fOk, Bool.and_eq_true, Bool.or_eq_true, decide_eq_true_eq] at h
  exact h.2.resolve_left (fun hne => hne hn)
theorem fOk_wf {hh : List UInt8} {f : Fd} (h : fOk hh f = true) (hl : f.1.length + f.2.length ≤ 100000000) : good (wf f) ∧ low (wf f) = f.1 ∧ tv (wf f) = f.2 := by
  simp only [fOk, Bool.and_eq_true, decide_eq_true_eq] at h
  obtain ⟨⟨⟨h1, h2⟩, h3⟩, h4⟩ := h
  have ht : tv (wf f) = f.2 := trim_val f.2 h3
  refine ⟨⟨?_, h1, by rw [ht]; exact h3, ?_⟩, h2, ht⟩
  · simp [lineOf, wf]
    omega
  · have := val_no h3 13 (by decide)
    simp [wf, this]
theorem nh_hosts {hh : List UInt8} {fs : List Fd} (h : fs.all (fOk hh) = true) : hosts (fs.map wf) = nh fs := by
  unfold hosts nh
  rw [List.countP_map]
  apply List.countP_congr
  intro f hf
  have h2 := (List.all_eq_true.1 h) f hf
  simp only [fOk, Bool.and_eq_true, decide_eq_true_eq] at h2
  have : low (wf f) = f.1 := h2.1.1.2
  simp [this]
theorem host_of {hh : List UInt8} : ∀ {fs : List Fd} (ho : ByteArray), fs.all (fOk hh) = true → (∀ f ∈ fs, f.1.length + f.2.length ≤ 100000000) → (1 ≤ nh fs ∨ ho = B hh) → hostOf (fun v => (hostR v).1) ho (fs.map wf) = B hh
  | [], ho, _, _, h => by
    rcases h with h | h
    · simp [nh] at h
    · exact h
  | f :: fs, ho, hf, hl, h => by
    rw [List.all_cons, Bool.and_eq_true] at hf
    obtain ⟨g1, g2, g3⟩ := fOk_wf hf.1 (hl f (by simp))
    rw [List.map_cons, hostOf, g2, g3]
    by_cases hn : f.1 = hostL
    · rw [if_pos hn]
      refine host_of _ hf.2 (fun x hx => hl x (by simp [hx])) (.inr ?_)
      unfold hostR
      rw [fOk_host hf.1 hn]
    · rw [if_neg hn]
      refine host_of _ hf.2 (fun x hx => hl x (by simp [hx])) ?_
      rcases h with h | h
      · left
        unfold nh at h ⊢
        rwa [List.countP_cons_of_neg (by simpa using hn)] at h
      · exact .inr h
theorem tgt_no {p q : List UInt8} (hp : pathL p = true) (hq : suchL true q = true) : (13 : UInt8) ∉ tgt p q ∧ (32 : UInt8) ∉ tgt p q := by
  have hs := (path_such hp).1
  have a1 := such_no false p hs 13 (by decide) (by decide) (by decide)
  have a2 := such_no false p hs 32 (by decide) (by decide) (by decide)
  have b1 := such_no true q hq 13 (by decide) (by decide) (by decide)
  have b2 := such_no true q hq 32 (by decide) (by decide) (by decide)
  unfold tgt
  split <;> simp [a1, a2, b1, b2]
theorem tgt_length (p q : List UInt8) : p.length + q.length ≤ (tgt p q).length := by
  unfold tgt
  split
  · rename_i h
    simp [h]
  · simp
/-- what is written is parsed as it was -/
theorem parse_write (m p q hh : List UInt8) (fs : List Fd) (z : List UInt8) (hz : z.length ≤ 1000000000) (hw : wOk m p q hh fs = true) (h1 : nh fs = 1) (h32 : fs.length ≤ 32) (hL : (writeL m p q fs).length ≤ 2048) :
    Ev (fun k => head_Parse.f k (bytesOf (B (writeL m p q fs ++ z)))) (B m, B p, B q, B hh, fs.map sF, ((writeL m p q fs).length : Int), 0) := by
  simp only [wOk, Bool.and_eq_true] at hw
  obtain ⟨⟨⟨hm, hp⟩, hq⟩, hf⟩ := hw
  have hlen := writeL_length m p q fs
  have htl := tgt_length p q
  have hfl : ∀ f ∈ fs, f.1.length + f.2.length ≤ 100000000 := fun f hfm => by have := sz_mem hfm; omega
  obtain ⟨t13, t32⟩ := tgt_no hp hq
  have hg : ∀ f ∈ fs.map wf, good f := by
    intro f hfm
    obtain ⟨g, hgm, rfl⟩ := List.mem_map.1 hfm
    exact (fOk_wf ((List.all_eq_true.1 hf) g hgm) (hfl g hgm)).1
  have hh' : ∀ f ∈ fs.map wf, low f = hostL → Ev (fun k => head_Host.f k (B (tv f))) ((hostR (tv f)).1, true) := by
    intro f hfm hlow
    obtain ⟨g, hgm, rfl⟩ := List.mem_map.1 hfm
    obtain ⟨g1, g2, g3⟩ := fOk_wf ((List.all_eq_true.1 hf) g hgm) (hfl g hgm)
    have hb := fOk_host ((List.all_eq_true.1 hf) g hgm) (g2 ▸ hlow)
    have := host_is (tv (wf g)) (by rw [g3]; have := hfl g hgm; omega)
    refine Ev.res this ?_
    rw [g3]
    unfold hostR
    rw [hb]
  have h := parse_is m (tgt p q) (B p) (B q) (B []) (fs.map wf) (fun v => (hostR v).1) z hz hm t13 t32 (target_is p q hp hq (by omega)) hg hh' hL (by rw [List.length_map]; omega)
  rw [nh_hosts hf, h1, host_of _ hf hfl (.inl (by omega))] at h
  have hfld : (fs.map wf).map fld = fs.map sF := by
    rw [List.map_map]
    apply List.map_congr_left
    intro g hgm
    obtain ⟨_, g2, g3⟩ := fOk_wf ((List.all_eq_true.1 hf) g hgm) (hfl g hgm)
    show (⟨B (low (wf g)), B (tv (wf g))⟩ : S38) = _
    rw [g2, g3]
    rfl
  rw [hfld] at h
  unfold fin at h
  rw [if_pos rfl, List.length_map, if_neg (by omega), if_pos (B_toList [])] at h
  have he : ((writeL m p q fs).length : Int) = ((joinL (linesL m (tgt p q) (fs.map wf))).length : Int) + 4 := by simp [writeL, headL]
  rw [he]
  exact h
/-- a head that is cut short -/
theorem parse_cut (m p q hh : List UInt8) (fs : List Fd) (j : Nat) (hw : wOk m p q hh fs = true) (hL : (writeL m p q fs).length ≤ 2048) (hj : j < (writeL m p q fs).length) :
    Ev (fun k => head_Parse.f k (bytesOf (B ((writeL m p q fs).take j)))) (errR 3) := by
  simp only [wOk, Bool.and_eq_true] at hw
  obtain ⟨⟨⟨hm, hp⟩, hq⟩, hf⟩ := hw
  have hlen := writeL_length m p q fs
  have hfl : ∀ f ∈ fs, f.1.length + f.2.length ≤ 100000000 := fun f hfm => by have := sz_mem hfm; omega
  obtain ⟨t13, t32⟩ := tgt_no hp hq
  have hg : ∀ f ∈ fs.map wf, good f := by
    intro f hfm
    obtain ⟨g, hgm, rfl⟩ := List.mem_map.1 hfm
    exact (fOk_wf ((List.all_eq_true.1 hf) g hgm) (hfl g hgm)).1
  have hok := lines_ok m (tgt p q) (fs.map wf) hm t13 hg
  have hl : (((writeL m p q fs).take j).map (fun b => (b.toNat : Int))).length = j := by rw [List.length_map, List.length_take]; omega
  have hmn : mn (j : Int) 2048 = (j : Int) := by unfold mn; rw [if_neg (by omega)]
  have hdef : writeL m p q fs = joinL (linesL m (tgt p q) (fs.map wf)) ++ 13 :: [10, 13, 10] := by simp [writeL, headL]
  have hle : (writeL m p q fs).length = (joinL (linesL m (tgt p q) (fs.map wf))).length + 4 := by rw [hdef]; simp
  unfold head_Parse.f
  rw [N8_B, hl, hmn]
  refine Ev.pos (by omega) (Ev.pos (by omega) ?_)
  rw [Int.toNat_natCast, ← List.map_take, List.take_take, Nat.min_self]
  have hix : bytes_Index.f (((writeL m p q fs).take j).map (fun b => (b.toNat : Int))) ([13, 10, 13, 10] : List Int) = some (-1) := by
    rw [show ([13, 10, 13, 10] : List Int) = ([13, 10, 13, 10] : List UInt8).map (fun b => (b.toNat : Int)) from rfl, Index_is _ _ (by rw [List.length_take]; omega) (by decide) (by decide)]
    congr 1
    refine Lib.index_none (fun i hi => ?_)
    cases ho : Lib.occAt ((writeL m p q fs).take j) [13, 10, 13, 10] i with
    | false => rfl
    | true =>
      exfalso
      rcases Lib.occAt_room ho with h1 | h1
      · rw [List.length_take] at h1
        simp at h1
        have hocc := join_occ (linesL m (tgt p q) (fs.map wf)) hok [10, 13, 10] i (by omega)
        rw [← hdef] at hocc
        unfold Lib.occAt at ho hocc
        rw [List.isPrefixOf_iff_prefix] at ho
        have hpre : ((writeL m p q fs).take j).drop i <+: (writeL m p q fs).drop i := by
          rw [List.drop_take]
          exact List.take_prefix _ _
        have := List.isPrefixOf_iff_prefix.2 (ho.trans hpre)
        rw [this] at hocc
        cases hocc
      · cases h1
  exact Ev.call hix (Ev.pos (by decide) (Ev.pos (by omega) (Ev.ret rfl)))
end Go.Proofs.YtabkdmfnafeaeaaDoor.HP
namespace Go.Proofs.YtabkdmfnafeaeaaDoor.HP
open Go.RowKit Go.Proofs.YtabkdmfnafeaeaaDoor.R Go.Proofs.YtabkdmfnafeaeaaDoorW.PrintWords Go.Proofs.YtabkdmfnafeaeaaDoorW.PrintLast Go.Proofs.YtabkdmfnafeaeaaDoorW.PrintMore
theorem N8_app (a b : List UInt8) : bytesOf (B a) ++ bytesOf (B b) = bytesOf (B (a ++ b)) := by rw [N8_B, N8_B, N8_B, List.map_append]
theorem N8_len (a : List UInt8) : (bytesOf (B a)).length = a.length := by rw [N8_B, List.length_map]
theorem same_self (m p q hh : ByteArray) (fl : List S38) (hl : fl.length ≤ 1000000000) : Ev (fun k => tollgateref09_Same.f k m p q hh fl m p q hh fl) true := by
  have hL : ∀ (d i : Nat), i + d = fl.length → Ev (fun k => tollgateref09_Same.l0 k (i : Int) m p q hh fl m p q hh fl) true := by
    intro d
    induction d with
    | zero =>
      intro i hi
      exact Ev.step (fun k => by simp only [tollgateref09_Same.l0]; rfl) (Ev.neg (by omega) (Ev.ret rfl))
    | succ d ih =>
      intro i hi
      have hw := wrap_succ i (by omega)
      refine Ev.step (fun k => by simp only [tollgateref09_Same.l0]; rfl) (Ev.pos (by omega) (Ev.pos (by omega) (Ev.pos (by omega) (Ev.neg (by simp) ?_))))
      rw [hw]
      exact ih (i + 1) (by omega)
  unfold tollgateref09_Same.f
  refine Ev.pos rfl (Ev.pos rfl (Ev.pos rfl (Ev.pos rfl (Ev.step (fun k => by simp only [tollgateref09_Same.j0]; rfl) (Ev.neg (by simp) (hL fl.length 0 (by omega)))))))
theorem live_is : Ev (fun k => tollgatelaw09_live.f k) true := Ev.of (fun k => tollgatelaw09_live.mono k) (k := 60) (by decide +kernel)
theorem bytes_in (l : List Int) (h : ∀ x ∈ l, (Lit.int .u8 x).wf = true) : ∃ z : List UInt8, l = bytesOf (B z) := by
  refine ⟨l.map (fun x => UInt8.ofNat x.toNat), ?_⟩
  rw [N8_B, List.map_map]
  conv => lhs; rw [← List.map_id l]
  apply List.map_congr_left
  intro x hx
  have := h x hx
  simp [Lit.wf, IntKind.min, IntKind.max, IntKind.signed, IntKind.bits] at this
  show x = (((UInt8.ofNat x.toNat).toNat : Nat) : Int)
  rw [UInt8.toNat_ofNat']
  omega
end Go.Proofs.YtabkdmfnafeaeaaDoor.HP
namespace Go.Proofs.YtabkdmfnafeaeaaDoor.HP
open Go.RowKit Go.Proofs.YtabkdmfnafeaeaaDoor.R Go.Proofs.YtabkdmfnafeaeaaDoorW.PrintWords Go.Proofs.YtabkdmfnafeaeaaDoorW.PrintLast Go.Proofs.YtabkdmfnafeaeaaDoorW.PrintMore
theorem cut_le (s sep : List UInt8) : (Lib.cut s sep).1.length ≤ s.length ∧ (Lib.cut s sep).2.1.length ≤ s.length := by
  unfold Lib.cut
  split
  · simp
    omega
  · simp
theorem Ev.ite {α : Type} {c : Prop} [Decidable c] {a b : Nat → Option α} {x y : α} (h1 : c → Ev a x) (h2 : ¬ c → Ev b y) : Ev (fun k => if c then a k else b k) (if c then x else y) := by
  by_cases h : c
  · rw [if_pos h]; exact Ev.pos h (h1 h)
  · rw [if_neg h]; exact Ev.neg h (h2 h)
def lineS (ln : List UInt8) : Option Fd :=
  if (Lib.cut ln [58]).2.2 = true ∧ tokOk (Lib.cut ln [58]).1 = true ∧ valOk (Lib.trimS (Lib.cut ln [58]).2.1 [9, 32]) = true then some ((Lib.cut ln [58]).1.map lowB, Lib.trimS (Lib.cut ln [58]).2.1 [9, 32]) else none
def loopS (E : Int) (m p q hh : ByteArray) : List (List UInt8) → Nat → List UInt8 → List Fd → HR
  | [], n, ho, acc => fin E m p q hh n (B ho) (acc.map sF)
  | ln :: r, n, ho, acc => match lineS ln with
    | none => errR 4
    | some f => if f.1 = hostL then (if (hostS f.2).2 = true then loopS E m p q hh r (n + 1) (hostS f.2).1 (acc ++ [f]) else errR 4) else loopS E m p q hh r n ho (acc ++ [f])
set_option maxHeartbeats 4000000 in
theorem loopS_is (E : Int) (hE : 0 ≤ E ∧ E ≤ 100000) (m p q hh : ByteArray) (lines : List ByteArray) (hll : lines.length ≤ 100000) :
    ∀ (ls : List (List UInt8)) (pre : List ByteArray) (n : Nat) (ho : List UInt8) (acc : List Fd),
      lines = pre ++ ls.map B → (∀ l ∈ ls, l.length ≤ 1000000000) →
      n ≤ pre.length → acc.length ≤ pre.length →
      Ev (fun k => head_Parse.l0 k E lines (n : Int) (pre.length : Int) (B ho) m p q hh (acc.map sF)) (loopS E m p q hh ls n ho acc) := by
  intro ls
  induction ls with
  | nil =>
    intro pre n ho acc hl _ hn ha
    have hw : wrap64 (E + 4) = E + 4 := by unfold wrap64; omega
    rw [List.map_nil, List.append_nil] at hl
    subst hl
    refine Ev.step (fun k => by simp only [head_Parse.l0]; rfl) (Ev.neg (by omega) ?_)
    rw [hw]
    show Ev _ (fin E m p q hh n (B ho) (acc.map sF))
    unfold fin
    by_cases h1 : n = 1
    · rw [if_pos h1]
      refine Ev.pos (by omega) ?_
      by_cases h2 : 32 < (acc.map sF).length
      · rw [if_pos h2]
        exact Ev.pos (by omega) (Ev.ret rfl)
      · rw [if_neg h2]
        refine Ev.neg (by omega) ?_
        by_cases h3 : hh.toList = []
        · rw [if_pos h3]
          simp only [if_pos h3]
          exact Ev.ret rfl
        · rw [if_neg h3]
          simp only [if_neg h3]
          exact Ev.ret rfl
    · rw [if_neg h1]
      exact Ev.neg (by omega) (Ev.ret rfl)
  | cons ln ls ih =>
    intro pre n ho acc hl hg hn ha
    have g1 := hg ln (by simp)
    have hlen : pre.length + (ls.length + 1) = lines.length := by rw [hl]; simp
    have hrd : rdOf ByteArray.empty lines (pre.length : Int) = B ln := by
      rw [hl]
      simp [rdOf]
    have c1 : strings_Cut.f (B ln) (⟨#[58]⟩ : ByteArray) = some (B (Lib.cut ln [58]).1, B (Lib.cut ln [58]).2.1, (Lib.cut ln [58]).2.2) := Cut_is ln [58] (by omega)
    obtain ⟨le1, le2⟩ := cut_le ln [58]
    have t1 : strings_Trim.f (B (Lib.cut ln [58]).2.1) (⟨#[9, 32]⟩ : ByteArray) = some (B (Lib.trimS (Lib.cut ln [58]).2.1 [9, 32])) := Trim_is (Lib.cut ln [58]).2.1 [9, 32] (by omega) (by decide) (by decide)
    have htl := trim_le (Lib.cut ln [58]).2.1 [9, 32]
    have tk := token_is (Lib.cut ln [58]).1 (by omega)
    have vl := value_is (Lib.trimS (Lib.cut ln [58]).2.1 [9, 32]) (by omega)
    have lo : head_lower.f (B (Lib.cut ln [58]).1) = some (B ((Lib.cut ln [58]).1.map lowB)) := Lower_is (Lib.cut ln [58]).1 (by omega)
    have hx := host_is (Lib.trimS (Lib.cut ln [58]).2.1 [9, 32]) (by omega)
    have hw1 : wrap64 ((pre.length : Int) + 1) = ((pre ++ [B ln]).length : Int) := by
      rw [List.length_append]
      unfold wrap64
      simp
      omega
    have hw2 : wrap64 ((n : Int) + 1) = ((n + 1 : Nat) : Int) := by unfold wrap64; omega
    have hl' : lines = (pre ++ [B ln]) ++ ls.map B := by rw [hl]; simp
    have hg' : ∀ x ∈ ls, x.length ≤ 1000000000 := fun x hx => hg x (by simp [hx])
    have hp : (pre ++ [B ln]).length = pre.length + 1 := by simp
    rw [loopS]
    generalize hc1 : (Lib.cut ln [58]).1 = nm at *
    generalize hc2 : (Lib.cut ln [58]).2.1 = v0 at *
    generalize hc3 : (Lib.cut ln [58]).2.2 = is at *
    generalize hv : Lib.trimS v0 [9, 32] = v at *
    have hline : lineS ln = if is = true ∧ tokOk nm = true ∧ valOk v = true then some (nm.map lowB, v) else none := by
      unfold lineS
      rw [hc1, hc2, hc3, hv]
    rw [hline]
    have hac2 : (acc ++ [(nm.map lowB, v)]).length ≤ (pre ++ [B ln]).length := by rw [hp, List.length_append]; exact Nat.succ_le_succ ha
    have hn1 : n + 1 ≤ (pre ++ [B ln]).length := by rw [hp]; exact Nat.succ_le_succ hn
    have hn0 : n ≤ (pre ++ [B ln]).length := by rw [hp]; exact Nat.le_succ_of_le hn
    have hacl : (acc.map sF).length = acc.length := List.length_map ..
    refine Ev.step (fun k => by simp only [head_Parse.l0]; rfl) ?_
    refine Ev.pos (by omega) (Ev.pos (by omega) ?_)
    rw [hrd]
    refine Ev.call c1 (Ev.call t1 ?_)
    cases is with
    | false =>
      rw [if_neg (by simp)]
      exact Ev.neg (by simp) (Ev.step (fun k => by simp only [head_Parse.j2]; rfl) (Ev.pos (by trivial) (Ev.ret rfl)))
    | true =>
      refine Ev.pos rfl (Ev.bind tk ?_)
      cases htk : tokOk nm with
      | false =>
        rw [if_neg (by simp)]
        exact Ev.neg (by simp) (Ev.step (fun k => by simp only [head_Parse.j2]; rfl) (Ev.pos (by trivial) (Ev.ret rfl)))
      | true =>
        refine Ev.pos rfl (Ev.bind vl ?_)
        cases hvl : valOk v with
        | false =>
          rw [if_neg (by simp)]
          exact Ev.step (fun k => by simp only [head_Parse.j2]; rfl) (Ev.pos (by trivial) (Ev.ret rfl))
        | true =>
          rw [if_pos ⟨rfl, rfl, rfl⟩]
          show Ev _ (if nm.map lowB = hostL then (if (hostS v).2 = true then loopS E m p q hh ls (n + 1) (hostS v).1 (acc ++ [(nm.map lowB, v)]) else errR 4) else loopS E m p q hh ls n ho (acc ++ [(nm.map lowB, v)]))
          refine Ev.step (fun k => by simp only [head_Parse.j2]; rfl) ?_
          refine Ev.neg (by decide) (Ev.call lo (Ev.pos (by omega) (Ev.put (Ev.call lo ?_))))
          have hsnoc : acc.map sF ++ [⟨B (nm.map lowB), B v⟩] = (acc ++ [(nm.map lowB, v)]).map sF := by simp [sF]
          rw [hsnoc]
          by_cases hq : nm.map lowB = hostL
          · rw [if_pos hq]
            refine Ev.pos (by rw [B_toList]; exact hq) (Ev.bind hx ?_)
            cases hb : (hostS v).2 with
            | false =>
              rw [if_neg (by simp)]
              exact Ev.neg (by show ¬ (hostR v).2 = true; unfold hostR; simp [hb]) (Ev.ret rfl)
            | true =>
              rw [if_pos rfl]
              refine Ev.pos (by show (hostR v).2 = true; exact hb) ?_
              have h := ih (pre ++ [B ln]) (n + 1) (hostS v).1 (acc ++ [(nm.map lowB, v)]) hl' hg' hn1 hac2
              rw [hw1, hw2]
              exact h
          · rw [if_neg hq]
            refine Ev.neg (by rw [B_toList]; exact hq) ?_
            have h := ih (pre ++ [B ln]) n ho (acc ++ [(nm.map lowB, v)]) hl' hg' hn0 hac2
            rw [hw1]
            exact h
/-! targets -/
def httpL : List UInt8 := [104, 116, 116, 112, 58, 47, 47]
def endS (p q hh : List UInt8) : List UInt8 × List UInt8 × List UInt8 × Bool := (p, q, hh, pathL p && suchL true q)
def farS (rest q : List UInt8) : List UInt8 × List UInt8 × List UInt8 × Bool :=
  let k := Lib.indexByte rest 47
  let ho := if k < 0 then rest else rest.take k.toNat
  let pp := if k < 0 then [47] else rest.drop k.toNat
  if (hostS ho).2 = true then endS pp q (hostS ho).1 else ([], [], [], false)
def targetS (t : List UInt8) : List UInt8 × List UInt8 × List UInt8 × Bool :=
  if Lib.hasPrefix (Lib.cut t [63]).1 httpL = true then farS (Lib.trimPrefix (Lib.cut t [63]).1 httpL) (Lib.cut t [63]).2.1
  else endS (Lib.cut t [63]).1 (Lib.cut t [63]).2.1 []
def tR (x : List UInt8 × List UInt8 × List UInt8 × Bool) : ByteArray × ByteArray × ByteArray × Bool := (B x.1, B x.2.1, B x.2.2.1, x.2.2.2)
theorem end_is (p q hh : List UInt8) (hp : p.length ≤ 1000000000) (hq : q.length ≤ 1000000000) : Ev (fun k => (head_path.f k (B p)).bind fun t137 => if t137 = true then ((head_such.f k (B q) true).bind fun t138 => (some (B p, B q, B hh, t138))) else (some (B p, B q, B hh, false))) (tR (endS p q hh)) := by
  refine Ev.bind (path_is p (by omega)) ?_
  unfold tR endS
  cases pathL p with
  | false => exact Ev.neg (by simp) (Ev.ret rfl)
  | true => exact Ev.pos rfl (Ev.bind (such_is true q (by omega)) (Ev.ret rfl))
theorem far_is (pp q ho : List UInt8) (hp : pp.length ≤ 1000000000) (hq : q.length ≤ 1000000000) (hh : ho.length ≤ 1000000000) : Ev (fun k => head_target.j0 k (B pp) (B q) (B ho)) (tR (if (hostS ho).2 = true then endS pp q (hostS ho).1 else ([], [], [], false))) := by
  refine Ev.step (fun k => by simp only [head_target.j0]; rfl) (Ev.bind (host_is ho hh) ?_)
  by_cases h : (hostS ho).2 = true
  · rw [if_pos h]
    exact Ev.pos h (end_is pp q (hostS ho).1 hp hq)
  · rw [if_neg h]
    exact Ev.neg h (Ev.ret rfl)
theorem targetS_is (t : List UInt8) (ht : t.length ≤ 1000000000) : Ev (fun k => head_target.f k (B t)) (tR (targetS t)) := by
  have hc : strings_Cut.f (B t) (⟨#[63]⟩ : ByteArray) = some (B (Lib.cut t [63]).1, B (Lib.cut t [63]).2.1, (Lib.cut t [63]).2.2) := Cut_is t [63] (by omega)
  obtain ⟨l1, l2⟩ := cut_le t [63]
  have hx : strings_CutPrefix.f (B (Lib.cut t [63]).1) (⟨#[104, 116, 116, 112, 58, 47, 47]⟩ : ByteArray) = some (B (Lib.trimPrefix (Lib.cut t [63]).1 httpL), Lib.hasPrefix (Lib.cut t [63]).1 httpL) := by
    unfold strings_CutPrefix.f
    rw [B_list]
    rfl
  have hl := Lib.trimPrefix_le (Lib.cut t [63]).1 httpL
  unfold head_target.f targetS
  refine Ev.call hc (Ev.call hx ?_)
  generalize (Lib.cut t [63]).1 = p at *
  generalize (Lib.cut t [63]).2.1 = q at *
  by_cases h : Lib.hasPrefix p httpL = true
  · rw [if_pos h]
    refine Ev.pos h ?_
    generalize Lib.trimPrefix p httpL = rest at *
    have hb : strings_IndexByte.f (B rest) 47 = some (Lib.indexByte rest 47) := by
      unfold strings_IndexByte.f
      rw [B_list]
      rfl
    refine Ev.call hb ?_
    unfold farS
    simp only
    by_cases hk : Lib.indexByte rest 47 < 0
    · refine Ev.pos hk ?_
      rw [if_pos hk, if_pos hk]
      exact far_is [47] q rest (by simp) (by omega) (by omega)
    · have hk1 : Lib.indexByte rest 47 ≤ rest.length := by
        obtain ⟨o, ho⟩ : ∃ o : Nat, Lib.indexByte rest 47 = o := ⟨(Lib.indexByte rest 47).toNat, by omega⟩
        have h1 := (Lib.indexByte_some ho).1
        have h2 := (List.getElem?_eq_some_iff.1 h1).1
        omega
      refine Ev.neg hk (Ev.pos (by omega) (Ev.pos (by rw [B_size]; exact hk1) ?_))
      rw [if_neg hk, if_neg hk, B_size, B_extract, B_extract]
      have e1 : (rest.drop (Lib.indexByte rest 47).toNat).take (rest.length - (Lib.indexByte rest 47).toNat) = rest.drop (Lib.indexByte rest 47).toNat := List.take_of_length_le (by simp)
      rw [e1, List.drop_zero, Nat.sub_zero]
      exact far_is _ q _ (by simp; omega) (by omega) (by simp; omega)
  · rw [if_neg h]
    exact Ev.neg h (end_is p q [] (by omega) (by omega))
/-! all of it -/
def headS (e : Int) (ls : List (List UInt8)) : HR :=
  let c := Lib.cut (ls.headD []) [32]
  let d := Lib.cut c.2.1 [32]
  let t := targetS d.1
  if t.2.2.2 = true ∧ tokOk c.1 = true ∧ d.2.1 = verL then loopS e (B c.1) (B t.1) (B t.2.1) (B t.2.2.1) ls.tail 0 [] [] else errR 4
def parseS (b : List UInt8) : HR :=
  if Lib.index (b.take 2048) [13, 10, 13, 10] < 0 then (if b.length < 2048 then errR 3 else errR 6) else headS (Lib.index (b.take 2048) [13, 10, 13, 10]) (Lib.split (b.take (Lib.index (b.take 2048) [13, 10, 13, 10]).toNat) [13, 10])
theorem splitK_ne (sub : List UInt8) (k : Nat) (s : List UInt8) : Lib.splitK sub 0 k s ≠ [] := by
  cases k with
  | zero => simp [Lib.splitK]
  | succ k =>
    simp only [Lib.splitK]
    split <;> simp
theorem split_ne (s sub : List UInt8) : Lib.split s sub ≠ [] := splitK_ne _ _ _
/-- THE LAW: what Parse tells of any bytes -/
theorem parseS_is (b : List UInt8) : Ev (fun k => head_Parse.f k (bytesOf (B b))) (parseS b) := by
  have hl : (b.map (fun x => (x.toNat : Int))).length = b.length := List.length_map ..
  obtain ⟨M, hM, hM1, hM2⟩ : ∃ M : Nat, mn (b.length : Int) 2048 = (M : Int) ∧ M ≤ b.length ∧ b.take M = b.take 2048 := by
    unfold mn
    split
    · exact ⟨2048, rfl, by omega, rfl⟩
    · refine ⟨b.length, rfl, Nat.le_refl _, ?_⟩
      rw [List.take_of_length_le (Nat.le_refl _), List.take_of_length_le (by omega)]
  unfold head_Parse.f
  rw [N8_B, hl, hM]
  refine Ev.pos (by omega) (Ev.pos (by omega) ?_)
  rw [Int.toNat_natCast, ← List.map_take, hM2]
  have hix : bytes_Index.f ((b.take 2048).map (fun b => (b.toNat : Int))) ([13, 10, 13, 10] : List Int) = some (Lib.index (b.take 2048) [13, 10, 13, 10]) := by
    rw [show ([13, 10, 13, 10] : List Int) = ([13, 10, 13, 10] : List UInt8).map (fun b => (b.toNat : Int)) from rfl, Index_is _ _ (by rw [List.length_take]; omega) (by decide) (by decide)]
  refine Ev.call hix ?_
  have hroom := Lib.index_room (b.take 2048) [13, 10, 13, 10]
  rw [List.length_take] at hroom
  unfold parseS
  generalize Lib.index (b.take 2048) [13, 10, 13, 10] = e at *
  by_cases he : e < 0
  · rw [if_pos he]
    refine Ev.pos he ?_
    by_cases h2 : b.length < 2048
    · rw [if_pos h2]
      exact Ev.pos (by omega) (Ev.ret rfl)
    · rw [if_neg h2]
      exact Ev.neg (by omega) (Ev.ret rfl)
  · rw [if_neg he]
    have hr := hroom (by omega)
    simp only [List.length_cons, List.length_nil] at hr
    refine Ev.neg he (Ev.pos (by omega) (Ev.pos (by omega) ?_))
    rw [← List.map_take, strOf_N8]
    have htl : (b.take e.toNat).length ≤ 2048 := by rw [List.length_take]; omega
    generalize b.take e.toNat = s at *
    have hsp : strings_Split.f (B s) (⟨#[13, 10]⟩ : ByteArray) = some ((Lib.split s [13, 10]).map B) := Split_is s [13, 10] (by omega) (by decide)
    refine Ev.call hsp ?_
    obtain ⟨n1, n2⟩ := split_len s [13, 10]
    have hne := split_ne s [13, 10]
    generalize Lib.split s [13, 10] = ls at *
    cases ls with
    | nil => exact absurd rfl hne
    | cons ln ls =>
      have hlen : (((ln :: ls).map B).length : Int) = ls.length + 1 := by simp
      refine Ev.pos (by rw [hlen]; omega) ?_
      have hrd : rdOf ByteArray.empty ((ln :: ls).map B) 0 = B ln := by simp [rdOf]
      rw [hrd]
      have hln := n2 ln (by simp)
      have hls : ls.length ≤ 2050 := by simp at n1; omega
      obtain ⟨a1, a2⟩ := cut_le ln [32]
      have c1 : strings_Cut.f (B ln) (⟨#[32]⟩ : ByteArray) = some (B (Lib.cut ln [32]).1, B (Lib.cut ln [32]).2.1, (Lib.cut ln [32]).2.2) := Cut_is ln [32] (by omega)
      unfold headS
      rw [show (ln :: ls).headD [] = ln from rfl, show (ln :: ls).tail = ls from rfl]
      generalize hm : (Lib.cut ln [32]).1 = m at *
      generalize hr2 : (Lib.cut ln [32]).2.1 = rest at *
      obtain ⟨b1, b2⟩ := cut_le rest [32]
      have c2 : strings_Cut.f (B rest) (⟨#[32]⟩ : ByteArray) = some (B (Lib.cut rest [32]).1, B (Lib.cut rest [32]).2.1, (Lib.cut rest [32]).2.2) := Cut_is rest [32] (by omega)
      refine Ev.call c1 (Ev.call c2 ?_)
      simp only
      rw [hm, hr2]
      generalize (Lib.cut rest [32]).1 = t at *
      generalize (Lib.cut rest [32]).2.1 = ver at *
      refine Ev.bind (targetS_is t (by omega)) ?_
      have hbad : ∀ (x : ByteArray × ByteArray × ByteArray × Bool), Ev (fun k => head_Parse.j0 k e ((ln :: ls).map B) 0 1 (⟨#[]⟩ : ByteArray) (B m) true (⟨#[]⟩ : ByteArray) x.1 x.2.1 x.2.2.1) (errR 4) := fun x => Ev.step (fun k => by simp only [head_Parse.j0]; rfl) (Ev.pos (by trivial) (Ev.ret rfl))
      by_cases ht : (targetS t).2.2.2 = true
      · refine Ev.pos ht (Ev.bind (token_is m (by omega)) ?_)
        by_cases hm2 : tokOk m = true
        · refine Ev.pos hm2 ?_
          rw [B_toList]
          by_cases hv : ver = verL
          · rw [if_pos ⟨ht, hm2, hv⟩, show (ver != ([72, 84, 84, 80, 47, 49, 46, 49] : List UInt8)) = false by rw [hv]; decide]
            have h := loopS_is e (by omega) (B m) (B (targetS t).1) (B (targetS t).2.1) (B (targetS t).2.2.1) ((ln :: ls).map B) (by simp; omega) ls [B ln] 0 [] [] (by simp) (fun l hl => by have := n2 l (by simp [hl]); omega) (by omega) (by simp)
            exact Ev.step (fun k => by simp only [head_Parse.j0]; rfl) (Ev.neg (by simp) h)
          · rw [if_neg (fun h => hv h.2.2), show (ver != ([72, 84, 84, 80, 47, 49, 46, 49] : List UInt8)) = true by simpa [verL] using hv]
            exact hbad (tR (targetS t))
        · rw [if_neg (fun h => hm2 h.2.1)]
          exact Ev.neg hm2 (hbad (tR (targetS t)))
      · rw [if_neg (fun h => ht h.1)]
        exact Ev.neg ht (hbad (tR (targetS t)))
end Go.Proofs.YtabkdmfnafeaeaaDoor.HP
namespace Go.Proofs.YtabkdmfnafeaeaaDoor.HP
open Go.RowKit Go.Proofs.YtabkdmfnafeaeaaDoor.R Go.Proofs.YtabkdmfnafeaeaaDoorW.PrintWords Go.Proofs.YtabkdmfnafeaeaaDoorW.PrintLast Go.Proofs.YtabkdmfnafeaeaaDoorW.PrintMore
theorem u8_all {P : UInt8 → Prop} (h : ∀ n : Fin 256, P (UInt8.ofNat n.val)) (b : UInt8) : P b := by
  have := h ⟨b.toNat, b.toNat_lt⟩
  simpa using this
theorem rin_is (c : UInt8) (s : List UInt8) (hs : s.length ≤ 4294967296) : ∀ (d i : Nat), i + d = s.length → Ev (fun k => tollgateref09_in.l0 k (c.toNat : Int) (B s) (i : Int)) ((s.drop i).contains c) := by
  intro d
  induction d with
  | zero =>
    intro i hi
    rw [List.drop_eq_nil_of_le (by omega)]
    exact Ev.step (fun k => by simp only [tollgateref09_in.l0]; rfl) (Ev.neg (by rw [B_size]; omega) (Ev.ret rfl))
  | succ d ih =>
    intro i hi
    have hlt : i < s.length := by omega
    have hw := wrap_succ i (by omega)
    rw [List.drop_eq_getElem_cons hlt, List.contains_cons]
    refine Ev.step (fun k => by simp only [tollgateref09_in.l0]; rfl) (Ev.pos (by rw [B_size]; omega) (Ev.pos (by omega) ?_))
    rw [B_bt s i hlt, hw]
    by_cases h : c = s[i]
    · rw [show (c == s[i]) = true by simpa using h, Bool.true_or]
      exact Ev.pos (by rw [h]) (Ev.ret rfl)
    · rw [show (c == s[i]) = false by simpa using h, Bool.false_or]
      exact Ev.neg (fun he => h (UInt8.toNat_inj.1 (by omega))) (ih (i + 1) (by omega))
theorem in_is (c : UInt8) (s : List UInt8) (hs : s.length ≤ 4294967296) : Ev (fun k => tollgateref09_in.f k (c.toNat : Int) (B s)) (s.contains c) := rin_is c s hs s.length 0 (by omega)
theorem rall_is (l s : List UInt8) (hl : l.length ≤ 4294967296) (hs : s.length ≤ 4294967296) : ∀ (d i : Nat), i + d = l.length → Ev (fun k => tollgateref09_all.l0 k (B l) (B s) (i : Int)) ((l.drop i).all s.contains) := by
  intro d
  induction d with
  | zero =>
    intro i hi
    rw [List.drop_eq_nil_of_le (by omega)]
    exact Ev.step (fun k => by simp only [tollgateref09_all.l0]; rfl) (Ev.neg (by rw [B_size]; omega) (Ev.ret rfl))
  | succ d ih =>
    intro i hi
    have hlt : i < l.length := by omega
    have hw := wrap_succ i (by omega)
    rw [List.drop_eq_getElem_cons hlt, List.all_cons]
    refine Ev.step (fun k => by simp only [tollgateref09_all.l0]; rfl) (Ev.pos (by rw [B_size]; omega) (Ev.pos (by omega) ?_))
    rw [B_bt l i hlt, hw]
    refine Ev.bind (in_is l[i] s hs) ?_
    cases s.contains l[i] with
    | true =>
      rw [Bool.true_and]
      exact Ev.pos rfl (ih (i + 1) (by omega))
    | false =>
      rw [Bool.false_and]
      exact Ev.neg (by simp) (Ev.ret rfl)
theorem all_is (l s : List UInt8) (hl : l.length ≤ 4294967296) (hs : s.length ≤ 4294967296) : Ev (fun k => tollgateref09_all.f k (B l) (B s)) (l.all s.contains) := rall_is l s hl hs l.length 0 (by omega)
def tokS : List UInt8 := [97, 98, 99, 100, 101, 102, 103, 104, 105, 106, 107, 108, 109, 110, 111, 112, 113, 114, 115, 116, 117, 118, 119, 120, 121, 122, 65, 66, 67, 68, 69, 70, 71, 72, 73, 74, 75, 76, 77, 78, 79, 80, 81, 82, 83, 84, 85, 86, 87, 88, 89, 90, 48, 49, 50, 51, 52, 53, 54, 55, 56, 57, 33, 35, 36, 37, 38, 39, 42, 43, 45, 46, 94, 95, 96, 124, 126]
theorem tokS_is : ∀ b : UInt8, tokS.contains b = tokB b := u8_all (by decide +kernel)
theorem Token_is (l : List UInt8) (hl : l.length ≤ 4294967296) : Ev (fun k => tollgateref09_Token.f k (B l)) (tokOk l) := by
  unfold tollgateref09_Token.f
  by_cases h : l = []
  · subst h
    exact Ev.pos (B_toList []) (Ev.ret rfl)
  · refine Ev.neg (by rw [B_toList]; exact h) (Ev.bind (all_is l tokS hl (by decide)) (Ev.ret ?_))
    rw [show tokS.contains = tokB from funext tokS_is]
    simp [tokOk, h]
/-! such -/
def hexS : List UInt8 := [48, 49, 50, 51, 52, 53, 54, 55, 56, 57, 97, 98, 99, 100, 101, 102, 65, 66, 67, 68, 69, 70]
def pchS : List UInt8 := [97, 98, 99, 100, 101, 102, 103, 104, 105, 106, 107, 108, 109, 110, 111, 112, 113, 114, 115, 116, 117, 118, 119, 120, 121, 122, 65, 66, 67, 68, 69, 70, 71, 72, 73, 74, 75, 76, 77, 78, 79, 80, 81, 82, 83, 84, 85, 86, 87, 88, 89, 90, 48, 49, 50, 51, 52, 53, 54, 55, 56, 57, 47, 45, 46, 95, 126, 33, 36, 38, 39, 40, 41, 42, 43, 44, 59, 61, 58, 64]
def moreS (q : Bool) : List UInt8 := if q = true then [63] else []
theorem hexS_is : ∀ b : UInt8, hexS.contains b = hexB b := u8_all (by decide +kernel)
theorem pchS_is (q : Bool) : ∀ b : UInt8, b.toNat ≠ 37 → (pchS ++ moreS q).contains b = (if b.toNat = 63 ∧ q = true then true else pchB b) := by
  cases q
  · exact u8_all (P := fun b => b.toNat ≠ 37 → (pchS ++ moreS false).contains b = (if b.toNat = 63 ∧ false = true then true else pchB b)) (by decide +kernel)
  · exact u8_all (P := fun b => b.toNat ≠ 37 → (pchS ++ moreS true).contains b = (if b.toNat = 63 ∧ true = true then true else pchB b)) (by decide +kernel)
theorem hex_at (q : Bool) (r : List UInt8) (a : UInt8) (h : hexB a = true) : atB q (a :: r) = true := by
  have h1 : ∀ b : UInt8, hexB b = true → b.toNat ≠ 37 ∧ b.toNat ≠ 63 ∧ pchB b = true := u8_all (P := fun b => hexB b = true → b.toNat ≠ 37 ∧ b.toNat ≠ 63 ∧ pchB b = true) (by decide +kernel)
  obtain ⟨a1, a2, a3⟩ := h1 a h
  rw [atB_cons, if_neg a1, if_neg (fun hh => a2 hh.1), a3]
theorem rsuch_is (q : Bool) (l : List UInt8) (hl : l.length ≤ 4294967296) : ∀ (n d i : Nat), d ≤ n → i + d = l.length → Ev (fun k => tollgateref09_such.l0 k (B l) (B (moreS q)) (i : Int)) (suchL q (l.drop i)) := by
  intro n
  induction n with
  | zero =>
    intro d i hd hi
    rw [List.drop_eq_nil_of_le (by omega)]
    exact Ev.step (fun k => by simp only [tollgateref09_such.l0]; rfl) (Ev.neg (by rw [B_size]; omega) (Ev.ret rfl))
  | succ n ih =>
    intro d i hd hi
    by_cases h0 : d = 0
    · rw [List.drop_eq_nil_of_le (by omega)]
      exact Ev.step (fun k => by simp only [tollgateref09_such.l0]; rfl) (Ev.neg (by rw [B_size]; omega) (Ev.ret rfl))
    have hlt : i < l.length := by omega
    have hw := wrap_succ i (by omega)
    have hw2 : wrap64 ((i : Int) + 2) = ((i + 2 : Nat) : Int) := by unfold wrap64; omega
    have hw3 : wrap64 (((i + 2 : Nat) : Int) + 1) = ((i + 3 : Nat) : Int) := by unfold wrap64; omega
    have hdr : l.drop i = l[i] :: l.drop (i + 1) := List.drop_eq_getElem_cons hlt
    have hms : (moreS q).length ≤ 1 := by unfold moreS; split <;> simp
    have hF : Ev (fun k => tollgateref09_such.j1 k (B l) (B (moreS q)) (i : Int) true) false := Ev.step (fun k => by simp only [tollgateref09_such.j1]; rfl) (Ev.pos (by trivial) (Ev.ret rfl))
    rw [hdr]
    show Ev _ (atB q (l[i] :: l.drop (i + 1)) && suchL q (l.drop (i + 1)))
    rw [atB_cons]
    refine Ev.step (fun k => by simp only [tollgateref09_such.l0]; rfl) (Ev.pos (by rw [B_size]; omega) (Ev.pos (by omega) ?_))
    rw [B_bt l i hlt, hw, hw2, B_size]
    by_cases h37 : l[i].toNat = 37
    · rw [if_pos h37]
      refine Ev.pos (by omega) ?_
      by_cases h2 : l.length ≤ i + 2
      · rw [two_short _ (by rw [List.length_drop]; omega), Bool.false_and]
        exact Ev.pos (by omega) hF
      · have h1 : i + 1 < l.length := by omega
        have h3 : i + 2 < l.length := by omega
        have hd1 : l.drop (i + 1) = l[i + 1] :: l[i + 2] :: l.drop (i + 3) := by
          rw [List.drop_eq_getElem_cons h1, List.drop_eq_getElem_cons h3]
        rw [hd1]
        show Ev _ ((hexB l[i + 1] && hexB l[i + 2]) && suchL q (l[i + 1] :: l[i + 2] :: l.drop (i + 3)))
        refine Ev.neg (by omega) (Ev.pos (by omega) (Ev.pos (by omega) ?_))
        rw [B_bt l (i + 1) h1]
        refine Ev.bind (in_is l[i + 1] hexS (by decide)) ?_
        rw [hexS_is]
        cases hA : hexB l[i + 1] with
        | false =>
          rw [Bool.false_and, Bool.false_and]
          exact Ev.neg (by simp) hF
        | true =>
          refine Ev.pos rfl (Ev.pos (by omega) (Ev.pos (by omega) ?_))
          rw [B_bt l (i + 2) h3]
          refine Ev.bind (in_is l[i + 2] hexS (by decide)) ?_
          rw [hexS_is]
          cases hB : hexB l[i + 2] with
          | false =>
            rw [Bool.and_false, Bool.false_and]
            exact hF
          | true =>
            show Ev _ (atB q (l[i + 1] :: l[i + 2] :: l.drop (i + 3)) && (atB q (l[i + 2] :: l.drop (i + 3)) && suchL q (l.drop (i + 3))))
            rw [hex_at q _ _ hA, hex_at q _ _ hB, Bool.true_and, Bool.true_and]
            refine Ev.step (fun k => by simp only [tollgateref09_such.j1]; rfl) (Ev.neg (by simp) ?_)
            rw [hw2, hw3]
            exact ih (d - 3) (i + 3) (by omega) (by omega)
    · rw [if_neg h37, ← pchS_is q l[i] h37]
      refine Ev.neg (by omega) (Ev.pos (by rw [B_size]; omega) ?_)
      have e1 : ((⟨#[97, 98, 99, 100, 101, 102, 103, 104, 105, 106, 107, 108, 109, 110, 111, 112, 113, 114, 115, 116, 117, 118, 119, 120, 121, 122, 65, 66, 67, 68, 69, 70, 71, 72, 73, 74, 75, 76, 77, 78, 79, 80, 81, 82, 83, 84, 85, 86, 87, 88, 89, 90, 48, 49, 50, 51, 52, 53, 54, 55, 56, 57, 47, 45, 46, 95, 126, 33, 36, 38, 39, 40, 41, 42, 43, 44, 59, 61, 58, 64]⟩ : ByteArray) ++ B (moreS q)) = B (pchS ++ moreS q) := B_append pchS (moreS q)
      rw [e1]
      have hlen : (pchS ++ moreS q).length ≤ 4294967296 := by rw [List.length_append]; have : pchS.length = 80 := rfl; omega
      refine Ev.bind (in_is l[i] (pchS ++ moreS q) hlen) ?_
      cases (pchS ++ moreS q).contains l[i] with
      | true =>
        rw [Bool.true_and]
        exact Ev.pos rfl (ih (d - 1) (i + 1) (by omega) (by omega))
      | false =>
        rw [Bool.false_and]
        exact Ev.neg (by simp) (Ev.ret rfl)
theorem refsuch_is (q : Bool) (l : List UInt8) (hl : l.length ≤ 4294967296) : Ev (fun k => tollgateref09_such.f k (B l) (B (moreS q))) (suchL q l) := rsuch_is q l hl l.length l.length 0 (Nat.le_refl _) (by omega)
theorem Path_is (l : List UInt8) (hl : l.length ≤ 4294967296) : Ev (fun k => tollgateref09_Path.f k (B l)) (pathL l) := by
  unfold tollgateref09_Path.f pathL
  cases l with
  | nil => exact Ev.pos (B_toList []) (Ev.ret rfl)
  | cons x r =>
    have h0 : 0 < (x :: r).length := by simp
    have hb : bt (B (x :: r)) 0 = (x.toNat : Int) := by
      have := B_bt (x :: r) 0 h0
      simpa using this
    refine Ev.neg (by rw [B_toList]; simp) (Ev.pos (by rw [B_size]; simp) ?_)
    rw [hb]
    by_cases hx : x = 47
    · subst hx
      rw [if_pos (by simp [Lib.hasPrefix, List.isPrefixOf])]
      exact Ev.pos rfl (Ev.bind (refsuch_is false _ hl) (Ev.ret rfl))
    · rw [if_neg (by simpa [Lib.hasPrefix, List.isPrefixOf] using fun h : (47 : UInt8) = x => hx h.symm)]
      exact Ev.neg (fun h => hx (UInt8.toNat_inj.1 (by have : (47 : UInt8).toNat = 47 := rfl; omega))) (Ev.ret rfl)
theorem Query_is (l : List UInt8) (hl : l.length ≤ 4294967296) : Ev (fun k => tollgateref09_Query.f k (B l)) (suchL true l) := Ev.bind (refsuch_is true l hl) (Ev.ret rfl)
/-! values -/
def restOk (l : List UInt8) (i : Nat) : Bool := (l.drop i).all valB && (if i = 0 then endsOk l else if i < l.length then !blankB (l.getLastD 0) else true)
theorem endsOk_cons {l : List UInt8} (h : 0 < l.length) : endsOk l = (!blankB l[0] && !blankB (l.getLastD 0)) := by
  cases l with
  | nil => simp at h
  | cons x r => rfl
theorem last_get {l : List UInt8} (h : 0 < l.length) : l.getLastD 0 = l[l.length - 1] := by
  rw [List.getLastD_eq_getLast?, List.getLast?_eq_getElem?, List.getElem?_eq_getElem (by omega)]
  rfl
theorem rvalue_is (l : List UInt8) (hl : l.length ≤ 4294967296) : ∀ (d i : Nat), i + d = l.length → Ev (fun k => tollgateref09_Value.l0 k (B l) (i : Int)) (restOk l i) := by
  intro d
  induction d with
  | zero =>
    intro i hi
    have : restOk l i = true := by
      unfold restOk
      rw [List.drop_eq_nil_of_le (by omega), List.all_nil, Bool.true_and]
      split
      · have : l = [] := List.eq_nil_of_length_eq_zero (by omega)
        subst this
        rfl
      · rw [if_neg (by omega)]
    rw [this]
    exact Ev.step (fun k => by simp only [tollgateref09_Value.l0]; rfl) (Ev.neg (by rw [B_size]; omega) (Ev.ret rfl))
  | succ d ih =>
    intro i hi
    have hlt : i < l.length := by omega
    have h0 : 0 < l.length := by omega
    have hw := wrap_succ i (by omega)
    have hwl : wrap64 ((l.length : Int) - 1) = ((l.length - 1 : Nat) : Int) := by unfold wrap64; omega
    have hdr : l.drop i = l[i] :: l.drop (i + 1) := List.drop_eq_getElem_cons hlt
    have hi' := ih (i + 1) (by omega)
    have hlast := last_get h0
    have hR : restOk l i = (valB l[i] && ((l.drop (i + 1)).all valB && (if i = 0 then endsOk l else !blankB (l.getLastD 0)))) := by
      unfold restOk
      rw [hdr, List.all_cons, Bool.and_assoc, if_pos hlt]
    have hR1 : restOk l (i + 1) = ((l.drop (i + 1)).all valB && (if i + 1 < l.length then !blankB (l.getLastD 0) else true)) := by
      unfold restOk
      rw [if_neg (by omega)]
    -- the byte, once the edge is told
    have hJ : ∀ e : Bool, e = decide (i = 0 ∨ i = l.length - 1) → Ev (fun k => tollgateref09_Value.j1 k (B l) (i : Int) e) (restOk l i) := by
      intro e he
      refine Ev.step (fun k => by simp only [tollgateref09_Value.j1]; rfl) (Ev.pos (by omega) (Ev.pos (by rw [B_size]; omega) ?_))
      rw [B_bt l i hlt]
      have hJ2 : Ev (fun k => tollgateref09_Value.j2 k (B l) (i : Int) e (l[i].toNat : Int) (blankB l[i])) (restOk l i) := by
        refine Ev.step (fun k => by simp only [tollgateref09_Value.j2]; rfl) ?_
        cases hb : blankB l[i] with
        | true =>
          have hv : valB l[i] = true := by
            unfold blankB at hb
            unfold valB
            rw [decide_eq_true_eq] at hb ⊢
            omega
          refine Ev.pos rfl ?_
          by_cases hE : i = 0 ∨ i = l.length - 1
          · rw [he, decide_eq_true hE, hR]
            refine Ev.pos rfl (Ev.ret ?_)
            by_cases hi0 : i = 0
            · subst hi0
              rw [if_pos rfl, endsOk_cons h0, hb]
              simp
            · have hie : i = l.length - 1 := by omega
              rw [if_neg hi0, hlast]
              have : l[l.length - 1] = l[i] := by congr 1; omega
              rw [this, hb]
              simp
          · rw [he, decide_eq_false hE]
            refine Ev.neg (by simp) ?_
            rw [hw]
            refine Ev.res hi' ?_
            rw [hR, hR1, hv, Bool.true_and, if_pos (show i + 1 < l.length by omega), if_neg (show ¬ i = 0 by omega)]
        | false =>
          refine Ev.neg (by simp) ?_
          have hblank : ¬ (l[i].toNat = 9 ∨ l[i].toNat = 32) := by
            unfold blankB at hb
            exact of_decide_eq_false hb
          by_cases h1 : l[i].toNat < 32
          · have hv : valB l[i] = false := by
              unfold valB
              rw [decide_eq_false_iff_not]
              omega
            rw [hR, hv, Bool.false_and]
            exact Ev.pos (by omega) (Ev.ret rfl)
          · refine Ev.neg (by omega) ?_
            by_cases h2 : l[i].toNat = 127
            · have hv : valB l[i] = false := by
                unfold valB
                rw [decide_eq_false_iff_not]
                omega
              rw [hR, hv, Bool.false_and]
              exact Ev.pos (by omega) (Ev.ret rfl)
            · have hv : valB l[i] = true := by
                unfold valB
                rw [decide_eq_true_eq]
                omega
              refine Ev.neg (by omega) ?_
              rw [hw]
              refine Ev.res hi' ?_
              rw [hR, hR1, hv, Bool.true_and]
              congr 1
              by_cases hi1 : i + 1 < l.length
              · rw [if_pos hi1]
                by_cases hi0 : i = 0
                · subst hi0
                  rw [if_pos rfl, endsOk_cons h0, hb]
                  simp
                · rw [if_neg hi0]
              · rw [if_neg hi1]
                have hlb : blankB (l.getLastD 0) = false := by
                  rw [hlast]
                  have : l[l.length - 1] = l[i] := by congr 1; omega
                  rw [this, hb]
                by_cases hi0 : i = 0
                · subst hi0
                  rw [if_pos rfl, endsOk_cons h0, hb, hlb]
                  rfl
                · rw [if_neg hi0, hlb]
                  rfl
      by_cases h9 : l[i].toNat = 9
      · have hb : blankB l[i] = true := by unfold blankB; exact decide_eq_true (.inl h9)
        rw [hb] at hJ2
        exact Ev.pos (by omega) hJ2
      · have hb : ((l[i].toNat : Int) == 32) = blankB l[i] := by
          unfold blankB
          rw [show ((l[i].toNat : Int) == 32) = decide ((l[i].toNat : Int) = 32) from rfl, decide_eq_decide]
          omega
        refine Ev.neg (by omega) ?_
        rw [hb]
        exact hJ2
    refine Ev.step (fun k => by simp only [tollgateref09_Value.l0]; rfl) (Ev.pos (by rw [B_size]; omega) ?_)
    by_cases hi0 : i = 0
    · exact Ev.pos (by omega) (hJ true (by rw [decide_eq_true (.inl hi0)]))
    · refine Ev.neg (by omega) ?_
      rw [B_size, hwl]
      refine hJ _ ?_
      rw [show ((i : Int) == ((l.length - 1 : Nat) : Int)) = decide ((i : Int) = ((l.length - 1 : Nat) : Int)) from rfl, decide_eq_decide]
      omega
theorem Value_is (l : List UInt8) (hl : l.length ≤ 4294967296) : Ev (fun k => tollgateref09_Value.f k (B l)) (valOk l) := by
  have h := rvalue_is l hl l.length 0 (by omega)
  unfold restOk at h
  rw [List.drop_zero, if_pos rfl] at h
  exact h
/-! lower, cut -/
theorem lowB_nat (b : UInt8) : ((lowB b).toNat : Int) = if 65 ≤ b.toNat ∧ b.toNat ≤ 90 then ((b.toNat : Int) + 32) % 256 else (b.toNat : Int) := by
  by_cases h : 65 ≤ b.toNat ∧ b.toNat ≤ 90
  · rw [if_pos h, lowB_up h]
    omega
  · rw [if_neg h]
    unfold lowB
    rw [if_neg h]
theorem rlower_is (l : List UInt8) (hl : l.length ≤ 4294967296) : ∀ (d i : Nat), i + d = l.length → Ev (fun k => tollgateref09_Lower.l0 k (B l) (bytesOf (B ((l.take i).map lowB))) (i : Int)) (B (l.map lowB)) := by
  intro d
  induction d with
  | zero =>
    intro i hi
    refine Ev.step (fun k => by simp only [tollgateref09_Lower.l0]; rfl) (Ev.neg (by rw [B_size]; omega) (Ev.ret ?_))
    rw [N8_B, strOf_N8, List.take_of_length_le (by omega)]
  | succ d ih =>
    intro i hi
    have hlt : i < l.length := by omega
    have hw := wrap_succ i (by omega)
    have hi' := ih (i + 1) (by omega)
    have hlen : (bytesOf (B ((l.take i).map lowB))).length < 140737488355328 := by rw [N8_len, List.length_map, List.length_take]; omega
    have hs : bytesOf (B ((l.take (i + 1)).map lowB)) = bytesOf (B ((l.take i).map lowB)) ++ [((lowB l[i]).toNat : Int)] := by
      rw [List.take_succ_eq_append_getElem hlt, List.map_append, ← N8_app]
      rfl
    rw [hs, lowB_nat] at hi'
    refine Ev.step (fun k => by simp only [tollgateref09_Lower.l0]; rfl) (Ev.pos (by rw [B_size]; omega) (Ev.pos (by omega) ?_))
    rw [B_bt l i hlt, hw]
    by_cases h1 : 65 ≤ l[i].toNat
    · by_cases h2 : l[i].toNat ≤ 90
      · rw [if_pos ⟨h1, h2⟩] at hi'
        exact Ev.pos (by omega) (Ev.pos (by omega) (Ev.pos hlen hi'))
      · rw [if_neg (fun h => h2 h.2)] at hi'
        exact Ev.pos (by omega) (Ev.neg (by omega) (Ev.pos hlen hi'))
    · rw [if_neg (fun h => h1 h.1)] at hi'
      exact Ev.neg (by omega) (Ev.pos hlen hi')
theorem rLower_is (l : List UInt8) (hl : l.length ≤ 4294967296) : Ev (fun k => tollgateref09_Lower.f k (B l)) (B (l.map lowB)) := rlower_is l hl l.length 0 (by omega)
theorem rcut_is (c : UInt8) (l : List UInt8) (hl : l.length ≤ 4294967296) : ∀ (s a : List UInt8), l = a ++ s → c ∉ a → Ev (fun k => tollgateref09_cut.l0 k (B l) (c.toNat : Int) (a.length : Int)) (B (cutC c l).1, B (cutC c l).2.1, (cutC c l).2.2) := by
  intro s
  induction s with
  | nil =>
    intro a ha hc
    rw [List.append_nil] at ha
    subst ha
    rw [cutC_no c l hc]
    exact Ev.step (fun k => by simp only [tollgateref09_cut.l0]; rfl) (Ev.neg (by rw [B_size]; omega) (Ev.ret rfl))
  | cons x s ih =>
    intro a ha hc
    have hlen : l.length = a.length + (s.length + 1) := by rw [ha]; simp
    have hlt : a.length < l.length := by omega
    have hx : l[a.length] = x := by simp [ha]
    have hw := wrap_succ a.length (by omega)
    refine Ev.step (fun k => by simp only [tollgateref09_cut.l0]; rfl) (Ev.pos (by rw [B_size]; omega) (Ev.pos (by omega) ?_))
    rw [B_bt l a.length hlt, hx, hw, B_size]
    by_cases h : x = c
    · subst h
      refine Ev.pos rfl (Ev.pos (by omega) (Ev.pos (by omega) (Ev.pos (by omega) (Ev.ret ?_))))
      rw [B_extract, B_extract, Int.toNat_natCast, Int.toNat_natCast, List.drop_zero, Nat.sub_zero, ha, cutC_one x s a hc]
      have e1 : (a ++ x :: s).take a.length = a := List.take_left' rfl
      have e2 : (a ++ x :: s).drop (a.length + 1) = s := by simp
      rw [e1, e2, List.take_of_length_le (by simp; omega)]
    · refine Ev.neg (fun he => h (UInt8.toNat_inj.1 (by omega))) ?_
      have := ih (a ++ [x]) (by rw [ha]; simp) (by simp [hc]; exact fun e => h e.symm)
      rw [List.length_append] at this
      exact this
theorem rCut_is (c : UInt8) (l : List UInt8) (hl : l.length ≤ 4294967296) : Ev (fun k => tollgateref09_cut.f k (B l) (c.toNat : Int)) (B (cutC c l).1, B (cutC c l).2.1, (cutC c l).2.2) := rcut_is c l hl l [] rfl (by simp)
/-! hosts -/
def dotsR : Bool → List UInt8 → Bool
  | pv, [] => !pv
  | pv, c :: r => if c = 46 then !pv && dotsR true r else hbB c && dotsR false r
theorem splitC_ne (c : UInt8) : ∀ l, ∃ x r, splitC c l = x :: r
  | [] => ⟨[], [], rfl⟩
  | b :: l => by
    rw [splitC]
    split
    · exact ⟨_, _, rfl⟩
    · obtain ⟨x, r, h⟩ := splitC_ne c l
      rw [h]
      exact ⟨_, _, rfl⟩
theorem dots_is : ∀ (l x : List UInt8) (r : List (List UInt8)), splitC 46 l = x :: r → dotsR false l = (x.all hbB && r.all partOk) ∧ dotsR true l = (partOk x && r.all partOk) := by
  intro l
  induction l with
  | nil =>
    intro x r h
    simp only [splitC, List.cons.injEq] at h
    obtain ⟨rfl, rfl⟩ := h
    exact ⟨rfl, rfl⟩
  | cons c l ih =>
    intro x r h
    obtain ⟨y, s, hs⟩ := splitC_ne 46 l
    obtain ⟨i1, i2⟩ := ih y s hs
    rw [splitC, hs] at h
    by_cases hc : c = 46
    · rw [if_pos hc] at h
      simp only [List.cons.injEq] at h
      obtain ⟨rfl, rfl⟩ := h
      simp only [dotsR, if_pos hc, i2]
      exact ⟨by simp, by simp [partOk]⟩
    · rw [if_neg hc] at h
      simp only [List.cons.injEq] at h
      obtain ⟨rfl, rfl⟩ := h
      simp only [dotsR, if_neg hc, i1]
      have hcy : (c :: y != []) = true := rfl
      exact ⟨by simp [Bool.and_assoc], by simp only [partOk, List.all_cons, hcy, Bool.and_true, Bool.and_assoc]⟩
theorem dots_all (l : List UInt8) : (splitC 46 l).all partOk = dotsR true l := by
  obtain ⟨x, r, h⟩ := splitC_ne 46 l
  rw [h, List.all_cons, (dots_is l x r h).2]
theorem dots_bytes : ∀ (l : List UInt8) (pv : Bool), dotsR pv l = true → l.all (fun c => hbB c || decide (c = 46)) = true
  | [], _, _ => rfl
  | c :: l, pv, h => by
    rw [dotsR] at h
    rw [List.all_cons, Bool.and_eq_true]
    by_cases hc : c = 46
    · rw [if_pos hc, Bool.and_eq_true] at h
      exact ⟨by simp [hc], dots_bytes l true h.2⟩
    · rw [if_neg hc, Bool.and_eq_true] at h
      exact ⟨by simp [h.1], dots_bytes l false h.2⟩
def hbS : List UInt8 := [97, 98, 99, 100, 101, 102, 103, 104, 105, 106, 107, 108, 109, 110, 111, 112, 113, 114, 115, 116, 117, 118, 119, 120, 121, 122, 65, 66, 67, 68, 69, 70, 71, 72, 73, 74, 75, 76, 77, 78, 79, 80, 81, 82, 83, 84, 85, 86, 87, 88, 89, 90, 48, 49, 50, 51, 52, 53, 54, 55, 56, 57, 45, 46]
def digS : List UInt8 := [48, 49, 50, 51, 52, 53, 54, 55, 56, 57]
theorem hbS_is : ∀ b : UInt8, hbS.contains b = (hbB b || decide (b = 46)) := u8_all (P := fun b => hbS.contains b = (hbB b || decide (b = 46))) (by decide +kernel)
theorem digS_is : ∀ b : UInt8, digS.contains b = digB b := u8_all (by decide +kernel)
theorem rhost_is (h : List UInt8) (hl : h.length ≤ 4294967296) (hall : h.all (fun c => hbB c || decide (c = 46)) = true) : ∀ (d i : Nat) (pv : Bool), i + d = h.length → (pv = true → i < h.length) → (pv = true ↔ i = 0 ∨ h[i - 1]? = some 46) →
    Ev (fun k => tollgateref09_Host.l0 k (B h) (i : Int)) (if dotsR pv (h.drop i) = true then (B (h.map lowB), true) else (B [], false)) := by
  intro d
  induction d with
  | zero =>
    intro i pv hi hp _
    have hpf : pv = false := by
      cases pv with
      | false => rfl
      | true => have := hp rfl; omega
    rw [List.drop_eq_nil_of_le (by omega), hpf, if_pos (show dotsR false [] = true from rfl)]
    exact Ev.step (fun k => by simp only [tollgateref09_Host.l0]; rfl) (Ev.neg (by rw [B_size]; omega) (Ev.bind (rLower_is h hl) (Ev.ret rfl)))
  | succ d ih =>
    intro i pv hi hp hpv
    have hlt : i < h.length := by omega
    have hw := wrap_succ i (by omega)
    have hwl : wrap64 ((h.length : Int) - 1) = ((h.length - 1 : Nat) : Int) := by unfold wrap64; omega
    have hdr : h.drop i = h[i] :: h.drop (i + 1) := List.drop_eq_getElem_cons hlt
    rw [hdr, dotsR]
    refine Ev.step (fun k => by simp only [tollgateref09_Host.l0]; rfl) (Ev.pos (by rw [B_size]; omega) (Ev.pos (by omega) ?_))
    rw [B_bt h i hlt, hw, B_size, hwl]
    by_cases h46 : h[i] = 46
    · rw [if_pos h46]
      refine Ev.pos (by rw [h46]; rfl) ?_
      by_cases hi0 : i = 0
      · rw [hpv.2 (.inl hi0)]
        exact Ev.pos (by omega) (Ev.ret rfl)
      · refine Ev.neg (by omega) ?_
        by_cases hie : i = h.length - 1
        · rw [List.drop_eq_nil_of_le (by omega)]
          rw [show (!pv && dotsR true []) = false by simp [dotsR]]
          exact Ev.pos (by omega) (Ev.ret rfl)
        · have hw1 : wrap64 ((i : Int) - 1) = ((i - 1 : Nat) : Int) := by unfold wrap64; omega
          refine Ev.neg (by omega) ?_
          rw [hw1]
          refine Ev.pos (by omega) (Ev.pos (by omega) ?_)
          rw [B_bt h (i - 1) (by omega)]
          have hge : h[i - 1]? = some h[i - 1] := List.getElem?_eq_getElem (by omega)
          by_cases hpd : h[i - 1] = 46
          · rw [hpv.2 (.inr (by rw [hge, hpd]))]
            exact Ev.pos (by rw [hpd]; rfl) (Ev.ret rfl)
          · have hpf : pv = false := by
              cases pv with
              | false => rfl
              | true =>
                rcases hpv.1 rfl with h1 | h1
                · exact absurd h1 hi0
                · rw [hge] at h1
                  exact absurd (Option.some.inj h1) hpd
            rw [hpf]
            refine Ev.neg (fun he => hpd (UInt8.toNat_inj.1 (by have : (46 : UInt8).toNat = 46 := rfl; omega))) ?_
            have := ih (i + 1) true (by omega) (fun _ => by omega) ⟨fun _ => .inr (by rw [Nat.add_sub_cancel, List.getElem?_eq_getElem hlt, h46]), fun _ => rfl⟩
            simpa using this
    · rw [if_neg h46]
      refine Ev.neg (fun he => h46 (UInt8.toNat_inj.1 (by have : (46 : UInt8).toNat = 46 := rfl; omega))) ?_
      have hb : hbB h[i] = true := by
        have := (List.all_eq_true.1 hall) h[i] (List.getElem_mem hlt)
        simpa [h46] using this
      have hno : i + 1 = 0 ∨ h[i + 1 - 1]? = some 46 → false = true := by
        intro hh
        rcases hh with hh | hh
        · omega
        · rw [Nat.add_sub_cancel, List.getElem?_eq_getElem hlt] at hh
          exact absurd (Option.some.inj hh) h46
      have := ih (i + 1) false (by omega) (fun hh => by cases hh) ⟨fun hh => (by cases hh), hno⟩
      rw [hb, Bool.true_and]
      exact this
theorem rHost_is (l : List UInt8) (hl : l.length ≤ 1000000000) : Ev (fun k => tollgateref09_Host.f k (B l)) (hostR l) := by
  have hc := rCut_is 58 l (by omega)
  obtain ⟨l1, l2⟩ := cut_le l [58]
  unfold hostR hostS
  rw [split_is 46 _ _ (Nat.le_refl _), cut_is, dots_all]
  rw [cut_is] at l1 l2
  unfold tollgateref09_Host.f
  refine Ev.bind hc ?_
  generalize (cutC 58 l).1 = h at *
  generalize (cutC 58 l).2.1 = port at *
  have hF : Ev (fun k => tollgateref09_Host.j0 k (B h) true) (B ([] : List UInt8), false) := Ev.step (fun k => by simp only [tollgateref09_Host.j0]; rfl) (Ev.pos (by trivial) (Ev.ret rfl))
  by_cases h1 : h.length < 1
  · have : h = [] := List.eq_nil_of_length_eq_zero (by omega)
    subst this
    rw [if_neg (fun hh => by have := hh.2.2.2; simp [dotsR] at this)]
    exact Ev.pos (by rw [B_size]; simp) hF
  · refine Ev.neg (by rw [B_size]; omega) ?_
    by_cases h2 : h.length ≤ 64
    · refine Ev.neg (by rw [B_size]; omega) ?_
      by_cases h3 : port.length ≤ 5
      · refine Ev.neg (by rw [B_size]; omega) (Ev.bind (all_is port digS (by omega) (by decide)) ?_)
        rw [show digS.contains = digB from funext digS_is]
        by_cases h4 : port.all digB = true
        · refine Ev.pos h4 (Ev.bind (all_is h hbS (by omega) (by decide)) ?_)
          rw [show hbS.contains = (fun c => hbB c || decide (c = 46)) from funext hbS_is]
          by_cases h5 : h.all (fun c => hbB c || decide (c = 46)) = true
          · rw [h5]
            refine Ev.step (fun k => by simp only [tollgateref09_Host.j0]; rfl) (Ev.neg (by simp) ?_)
            have := rhost_is h (by omega) h5 h.length 0 true (by omega) (fun _ => by omega) ⟨fun _ => .inl rfl, fun _ => rfl⟩
            rw [List.drop_zero] at this
            refine Ev.res this ?_
            by_cases h6 : dotsR true h = true
            · rw [if_pos h6, if_pos ⟨h4, h3, h2, h6⟩]
            · rw [if_neg h6, if_neg (fun hh => h6 hh.2.2.2)]
          · rw [if_neg (fun hh => h5 (dots_bytes _ _ hh.2.2.2)), Bool.eq_false_iff.2 h5]
            exact hF
        · rw [if_neg (fun hh => h4 hh.1)]
          exact Ev.neg h4 hF
      · rw [if_neg (fun hh => h3 hh.2.1)]
        exact Ev.pos (by rw [B_size]; omega) hF
    · rw [if_neg (fun hh => h2 hh.2.2.1)]
      exact Ev.pos (by rw [B_size]; omega) hF
end Go.Proofs.YtabkdmfnafeaeaaDoor.HP
namespace Go.Proofs.YtabkdmfnafeaeaaDoor.HP
open Go.RowKit Go.Proofs.YtabkdmfnafeaeaaDoor.R Go.Proofs.YtabkdmfnafeaeaaDoorW.PrintWords Go.Proofs.YtabkdmfnafeaeaaDoorW.PrintLast Go.Proofs.YtabkdmfnafeaeaaDoorW.PrintMore
/-! blanks at both ends -/
theorem nil_or_snoc (l : List UInt8) : l = [] ∨ ∃ r c, l = r ++ [c] := by
  rcases List.eq_nil_or_concat l with h | ⟨r, c, h⟩
  · exact .inl h
  · exact .inr ⟨r, c, by rw [h, List.concat_eq_append]⟩
def isBl (c : UInt8) : Bool := ([9, 32] : List UInt8).contains c
theorem isBl_iff (c : UInt8) : isBl c = true ↔ c.toNat = 9 ∨ c.toNat = 32 := by
  unfold isBl
  simp only [List.contains_cons, List.contains_nil, Bool.or_false, Bool.or_eq_true, beq_iff_eq]
  constructor
  · rintro (rfl | rfl)
    · exact .inl rfl
    · exact .inr rfl
  · rintro (h | h)
    · exact .inl (UInt8.toNat_inj.1 h)
    · exact .inr (UInt8.toNat_inj.1 h)
def rtrim (l : List UInt8) : List UInt8 := (l.reverse.dropWhile isBl).reverse
theorem rtrim_snoc (l : List UInt8) (c : UInt8) : rtrim (l ++ [c]) = if isBl c = true then rtrim l else l ++ [c] := by
  unfold rtrim
  rw [List.reverse_append]
  show (List.dropWhile isBl (c :: l.reverse)).reverse = _
  rw [List.dropWhile_cons]
  split
  · rfl
  · simp
/-- left and right trims pass by one another -/
theorem trim_swap : ∀ (l : List UInt8), (rtrim l).dropWhile isBl = rtrim (l.dropWhile isBl) := by
  have h : ∀ (n : Nat) (l : List UInt8), l.length = n → (rtrim l).dropWhile isBl = rtrim (l.dropWhile isBl) := by
    intro n
    induction n with
    | zero =>
      intro l hl
      obtain rfl := List.eq_nil_of_length_eq_zero hl
      rfl
    | succ n ih =>
      intro l hl
      rcases nil_or_snoc l with rfl | ⟨r, c, rfl⟩
      · rfl
      · have hr : r.length = n := by simpa using hl
        rw [rtrim_snoc]
        by_cases hc : isBl c = true
        · rw [if_pos hc, ih r hr]
          have h2 : (r ++ [c]).dropWhile isBl = r.dropWhile isBl ++ [c] ∨ ((r ++ [c]).dropWhile isBl = [] ∧ r.dropWhile isBl = []) := by
            rw [List.dropWhile_append]
            split
            · rename_i he
              right
              refine ⟨by simp [hc], by simpa using he⟩
            · exact .inl rfl
          rcases h2 with h2 | ⟨h2, h3⟩
          · rw [h2, rtrim_snoc, if_pos hc]
          · rw [h2, h3]
        · rw [if_neg hc]
          have h2 : (r ++ [c]).dropWhile isBl = r.dropWhile isBl ++ [c] := by
            rw [List.dropWhile_append]
            split
            · rename_i he
              have : r.dropWhile isBl = [] := by simpa using he
              rw [this]
              simp [hc]
            · rfl
          rw [h2, rtrim_snoc, if_neg hc]
  exact fun l => h l.length l rfl
theorem trimS_is (l : List UInt8) : Lib.trimS l [9, 32] = rtrim (l.dropWhile isBl) := by
  rw [← trim_swap]
  rfl
theorem rtrim_loop : ∀ (n : Nat) (l : List UInt8), l.length = n → n ≤ 4294967296 → Ev (fun k => tollgateref09_trimmed.l1 k (B l)) (B (rtrim l)) := by
  intro n
  induction n with
  | zero =>
    intro l hl _
    obtain rfl := List.eq_nil_of_length_eq_zero hl
    exact Ev.step (fun k => by simp only [tollgateref09_trimmed.l1]; rfl) (Ev.neg (by rw [B_size]; simp) (Ev.ret rfl))
  | succ n ih =>
    intro l hl hn
    rcases nil_or_snoc l with rfl | ⟨r, c, rfl⟩
    · simp at hl
    · have hr : r.length = n := by simpa using hl
      have hI := ih r hr (by omega)
      have hw : wrap64 (((r ++ [c]).length : Int) - 1) = (r.length : Int) := by
        rw [List.length_append]
        unfold wrap64
        simp
        omega
      have hb : bt (B (r ++ [c])) (r.length : Int) = (c.toNat : Int) := by
        rw [B_bt _ _ (by simp)]
        simp
      have hx : (B (r ++ [c])).extract 0 ((r.length : Int)).toNat = B r := by
        rw [Int.toNat_natCast, B_extract, List.drop_zero, Nat.sub_zero, List.take_left' rfl]
      have hlen : (r ++ [c]).length = r.length + 1 := by simp
      rw [rtrim_snoc]
      refine Ev.step (fun k => by simp only [tollgateref09_trimmed.l1]; rfl) ?_
      rw [B_size, hw, hb, hx]
      clear hw
      refine Ev.pos (by omega) (Ev.pos (by omega) (Ev.pos (by omega) ?_))
      by_cases h9 : c.toNat = 9
      · rw [if_pos ((isBl_iff c).2 (.inl h9))]
        exact Ev.pos (by omega) (Ev.pos (by omega) hI)
      · refine Ev.neg (by omega) ?_
        by_cases h32 : c.toNat = 32
        · rw [if_pos ((isBl_iff c).2 (.inr h32))]
          exact Ev.pos (by omega) (Ev.pos (by omega) hI)
        · rw [if_neg (fun h => by have := (isBl_iff c).1 h; omega)]
          exact Ev.neg (by omega) (Ev.ret rfl)
theorem ltrim_loop : ∀ (l : List UInt8), l.length ≤ 4294967296 → Ev (fun k => tollgateref09_trimmed.l0 k (B l)) (B (rtrim (l.dropWhile isBl)))
  | [], _ => by
    refine Ev.step (fun k => by simp only [tollgateref09_trimmed.l0]; rfl) (Ev.neg (by rw [B_size]; simp) ?_)
    exact Ev.step (fun k => by simp only [tollgateref09_trimmed.j1]) (rtrim_loop 0 [] rfl (by omega))
  | c :: r, hl => by
    have hr : r.length ≤ 4294967296 := by simp at hl; omega
    have hI := ltrim_loop r hr
    have h0 : bt (B (c :: r)) 0 = (c.toNat : Int) := by
      have := B_bt (c :: r) 0 (by simp)
      simpa using this
    have hx : (B (c :: r)).extract 1 (c :: r).length = B r := by
      rw [B_extract]
      simp
    have hlen : (c :: r).length = r.length + 1 := rfl
    rw [List.dropWhile_cons]
    refine Ev.step (fun k => by simp only [tollgateref09_trimmed.l0]; rfl) ?_
    rw [h0, B_size, hx]
    refine Ev.pos (by omega) (Ev.pos (by omega) ?_)
    by_cases h9 : c.toNat = 9
    · rw [if_pos ((isBl_iff c).2 (.inl h9))]
      exact Ev.pos (by omega) (Ev.pos (by omega) hI)
    · refine Ev.neg (by omega) ?_
      by_cases h32 : c.toNat = 32
      · rw [if_pos ((isBl_iff c).2 (.inr h32))]
        exact Ev.pos (by omega) (Ev.pos (by omega) hI)
      · rw [if_neg (fun h => by have := (isBl_iff c).1 h; omega)]
        refine Ev.neg (by omega) ?_
        exact Ev.step (fun k => by simp only [tollgateref09_trimmed.j1]) (rtrim_loop (r.length + 1) (c :: r) rfl (by omega))
theorem trimmed_is (l : List UInt8) (hl : l.length ≤ 4294967296) : Ev (fun k => tollgateref09_trimmed.f k (B l)) (B (Lib.trimS l [9, 32])) := by
  rw [trimS_is]
  exact ltrim_loop l hl
/-! lines -/
def consH (p : List UInt8) : List (List UInt8) → List (List UInt8)
  | [] => [p]
  | x :: r => (p ++ x) :: r
def linesR : List UInt8 → List (List UInt8)
  | [] => [[]]
  | [c] => [[c]]
  | c :: d :: r => if c = 13 ∧ d = 10 then [] :: linesR r else consH [c] (linesR (d :: r))
theorem split_step {s : List UInt8} {i : Nat} (h : Lib.index s [13, 10] = (i : Int)) : Lib.split s [13, 10] = s.take i :: Lib.split (s.drop (i + 2)) [13, 10] := by
  unfold Lib.split
  rw [Lib.count_hit (by simp) h, Nat.add_comm]
  simp only [Lib.splitK]
  rw [h, if_neg (by simp), Int.toNat_natCast, Nat.add_zero, show ([13, 10] : List UInt8).length = 2 from rfl]
theorem split_miss {s : List UInt8} (h : Lib.index s [13, 10] = -1) : Lib.split s [13, 10] = [s] := by
  unfold Lib.split
  rw [Lib.count_miss h]
  rfl
theorem index_cons (c : UInt8) (l sub : List UInt8) : Lib.index (c :: l) sub = if sub.isPrefixOf (c :: l) then 0 else if Lib.index l sub == -1 then -1 else Lib.index l sub + 1 := rfl
theorem split_lines : ∀ (n : Nat) (s : List UInt8), s.length ≤ n → Lib.split s [13, 10] = linesR s := by
  intro n
  induction n with
  | zero =>
    intro s hs
    obtain rfl := List.eq_nil_of_length_eq_zero (Nat.le_zero.1 hs)
    rfl
  | succ n ih =>
    intro s hs
    match s, hs with
    | [], _ => rfl
    | [c], _ =>
      refine split_miss ?_
      rw [index_cons, if_neg (by simp [List.isPrefixOf])]
      rfl
    | c :: d :: r, hs =>
      have hlen : (d :: r).length ≤ n := by simp at hs ⊢; omega
      rw [linesR]
      by_cases h : c = 13 ∧ d = 10
      · rw [if_pos h]
        obtain ⟨rfl, rfl⟩ := h
        have hi : Lib.index (13 :: 10 :: r) [13, 10] = ((0 : Nat) : Int) := by
          rw [index_cons, if_pos (by simp [List.isPrefixOf])]
          rfl
        rw [split_step hi]
        show [] :: Lib.split r [13, 10] = _
        rw [ih r (by simp at hlen; omega)]
      · rw [if_neg h]
        have hp : ([13, 10] : List UInt8).isPrefixOf (c :: d :: r) = false := by
          cases hq : ([13, 10] : List UInt8).isPrefixOf (c :: d :: r) with
          | false => rfl
          | true =>
            exfalso
            apply h
            simp [List.isPrefixOf] at hq
            exact ⟨hq.1.symm, hq.2.symm⟩
        have hI := ih (d :: r) hlen
        have hc := index_cons c (d :: r) [13, 10]
        rw [hp, if_neg (by simp)] at hc
        have hge := Lib.index_ge (d :: r) [13, 10]
        by_cases hm : Lib.index (d :: r) [13, 10] = -1
        · rw [hm] at hc
          rw [split_miss (by rw [hc]; rfl)]
          rw [split_miss hm] at hI
          rw [← hI]
          rfl
        · obtain ⟨i, hi⟩ : ∃ i : Nat, Lib.index (d :: r) [13, 10] = (i : Int) := ⟨(Lib.index (d :: r) [13, 10]).toNat, by omega⟩
          have hc2 : Lib.index (c :: d :: r) [13, 10] = ((i + 1 : Nat) : Int) := by
            rw [hc, hi, if_neg (by simp)]
            rfl
          rw [split_step hc2]
          rw [split_step hi] at hI
          rw [← hI]
          rfl
theorem linesR_ne : ∀ s, ∃ x r, linesR s = x :: r
  | [] => ⟨_, _, rfl⟩
  | [_] => ⟨_, _, rfl⟩
  | c :: d :: r => by
    rw [linesR]
    split
    · exact ⟨_, _, rfl⟩
    · obtain ⟨x, y, h⟩ := linesR_ne (d :: r)
      rw [h]
      exact ⟨_, _, rfl⟩
theorem consH_consH (p : List UInt8) (c : UInt8) (s : List UInt8) : consH p (consH [c] (linesR s)) = consH (p ++ [c]) (linesR s) := by
  obtain ⟨x, r, h⟩ := linesR_ne s
  rw [h]
  simp [consH]
theorem take_mid (s : List UInt8) (f i : Nat) (h1 : f ≤ i) (h2 : i < s.length) : (s.drop f).take (i + 1 - f) = (s.drop f).take (i - f) ++ [s[i]] := by
  have h3 : i - f < (s.drop f).length := by rw [List.length_drop]; omega
  rw [show i + 1 - f = (i - f) + 1 by omega, List.take_succ_eq_append_getElem h3]
  congr 2
  rw [List.getElem_drop]
  congr 1
  omega
theorem lines_loop (s : List UInt8) (hs : s.length ≤ 1000000000) : ∀ (n i f : Nat) (acc : List (List UInt8)), s.length - i ≤ n → f ≤ i → i ≤ s.length → acc.length ≤ i →
    Ev (fun k => tollgateref09_lines.l0 k (B s) (acc.map B) (f : Int) (i : Int)) ((acc ++ consH ((s.drop f).take (i - f)) (linesR (s.drop i))).map B) := by
  intro n
  induction n with
  | zero =>
    intro i f acc hn hf hi ha
    have hw := wrap_succ i (by omega)
    have e : i = s.length := by omega
    have hx : (B s).extract (f : Int).toNat s.length = B (s.drop f) := by
      rw [Int.toNat_natCast, B_extract, List.take_of_length_le (by simp)]
    refine Ev.step (fun k => by simp only [tollgateref09_lines.l0]; rfl) ?_
    rw [hw, B_size, hx]
    clear hw
    refine Ev.neg (by omega) (Ev.pos (by omega) (Ev.pos (by omega) (Ev.pos (by rw [List.length_map]; omega) (Ev.ret ?_))))
    subst e
    have hL : linesR (s.drop s.length) = [[]] := by rw [List.drop_length]; rfl
    rw [hL]
    have h2 : (s.drop f).take (s.length - f) = s.drop f := List.take_of_length_le (by simp)
    rw [h2]
    simp [consH]
  | succ n ih =>
    intro i f acc hn hf hi ha
    have hw := wrap_succ i (by omega)
    have hw2 : wrap64 ((i : Int) + 2) = ((i + 2 : Nat) : Int) := by unfold wrap64; omega
    have hw3 := wrap_succ (i + 1) (by omega)
    have hx : (B s).extract (f : Int).toNat s.length = B (s.drop f) := by
      rw [Int.toNat_natCast, B_extract, List.take_of_length_le (by simp)]
    have hx2 : (B s).extract (f : Int).toNat (i : Int).toNat = B ((s.drop f).take (i - f)) := by
      rw [Int.toNat_natCast, Int.toNat_natCast, B_extract]
    refine Ev.step (fun k => by simp only [tollgateref09_lines.l0]; rfl) ?_
    rw [hw, hw2, hw3, B_size, hx, hx2]
    clear hw hw2 hw3 hx hx2
    by_cases h1 : i + 1 < s.length
    · have hd : s.drop i = s[i] :: s[i + 1] :: s.drop (i + 2) := by
        rw [List.drop_eq_getElem_cons (show i < s.length by omega), List.drop_eq_getElem_cons h1]
      refine Ev.pos (by omega) (Ev.pos (by omega) (Ev.pos (by omega) ?_))
      rw [B_bt s i (by omega), hd, linesR]
      have hgo : Ev (fun k => tollgateref09_lines.l0 k (B s) (acc.map B) (f : Int) ((i + 1 : Nat) : Int)) ((acc ++ consH ((s.drop f).take (i - f)) (consH [s[i]] (linesR (s[i + 1] :: s.drop (i + 2))))).map B) := by
        have hI := ih (i + 1) f acc (by omega) (by omega) (by omega) (by omega)
        rw [take_mid s f i hf (by omega), List.drop_eq_getElem_cons h1, ← consH_consH] at hI
        exact hI
      by_cases h13 : s[i] = 13
      · refine Ev.pos (by rw [h13]; rfl) (Ev.pos (by omega) ?_)
        rw [B_bt s (i + 1) h1]
        by_cases h10 : s[i + 1] = 10
        · rw [if_pos ⟨h13, h10⟩]
          have hI := ih (i + 2) (i + 2) (acc ++ [(s.drop f).take (i - f)]) (by omega) (by omega) (by omega) (by simp; omega)
          rw [Nat.sub_self, List.take_zero] at hI
          have hc : ∀ L x r, L = x :: r → consH ([] : List UInt8) L = L := by rintro _ x r rfl; rfl
          obtain ⟨x, r, hL⟩ := linesR_ne (s.drop (i + 2))
          rw [hc _ x r hL] at hI
          refine Ev.pos (by rw [h10]; rfl) (Ev.pos (by omega) (Ev.pos (by omega) (Ev.pos (by omega) (Ev.pos (by rw [List.length_map]; omega) ?_))))
          rw [List.map_append] at hI
          refine Ev.res hI ?_
          simp [consH]
        · rw [if_neg (fun h => h10 h.2)]
          exact Ev.neg (fun he => h10 (UInt8.toNat_inj.1 (by have : (10 : UInt8).toNat = 10 := rfl; omega))) hgo
      · rw [if_neg (fun h => h13 h.1)]
        exact Ev.neg (fun he => h13 (UInt8.toNat_inj.1 (by have : (13 : UInt8).toNat = 13 := rfl; omega))) hgo
    · refine Ev.neg (by omega) (Ev.pos (by omega) (Ev.pos (by omega) (Ev.pos (by rw [List.length_map]; omega) (Ev.ret ?_))))
      by_cases he : i = s.length
      · have hL : linesR (s.drop i) = [[]] := by rw [he, List.drop_length]; rfl
        have h2 : (s.drop f).take (i - f) = s.drop f := List.take_of_length_le (by rw [List.length_drop]; omega)
        rw [hL, h2]
        simp [consH]
      · have hlt : i < s.length := by omega
        have hL : linesR (s.drop i) = [[s[i]]] := by
          rw [List.drop_eq_getElem_cons hlt, List.drop_eq_nil_of_le (by omega)]
          rfl
        have h2 : (s.drop f).take (i - f) ++ [s[i]] = s.drop f := by
          rw [← take_mid s f i hf hlt]
          exact List.take_of_length_le (by rw [List.length_drop]; omega)
        rw [hL]
        simp [consH, h2]
theorem lines_is (s : List UInt8) (hs : s.length ≤ 1000000000) : Ev (fun k => tollgateref09_lines.f k (B s)) ((Lib.split s [13, 10]).map B) := by
  have h := lines_loop s hs s.length 0 0 [] (by omega) (by omega) (by omega) (by simp)
  obtain ⟨x, r, hL⟩ := linesR_ne s
  rw [List.drop_zero, Nat.sub_self, List.take_zero, hL] at h
  rw [split_lines s.length s (Nat.le_refl _), hL]
  exact h
end Go.Proofs.YtabkdmfnafeaeaaDoor.HP
