/- Plain facts for the head: HPa, HPb, HPc, HPh, HPw, HPx, HPy, HPr, HPq, HPt, one behind the other. -/
import Derived.Test.YtabkdmfnafeaeaaDoorQx12
import Derived.Test.YtabkdmfnafeaeaaDoorQx18
import Derived.Test.YtabkdmfnafeaeaaDoorQx22
import Derived.Test.YtabkdmfnafeaeaaDoorQx23
import Derived.Test.YtabkdmfnafeaeaaDoorQx6
import Derived.Lib.CountLaws
import Derived.Lib.IndexLaws
import Derived.Lib.Split
import Derived.Test.YtabkdmfnafeaeaaDoorQx8
import Derived.Test.YtabkdmfnafeaeaaDoorQx14
import Derived.Test.YtabkdmfnafeaeaaDoorQx15
import Derived.Test.YtabkdmfnafeaeaaDoorQx42
import Derived.Test.YtabkdmfnafeaeaaDoorQx8
import Derived.Test.YtabkdmfnafeaeaaDoorQx6
import Derived.Test.YtabkdmfnafeaeaaDoorQx8
import Derived.Test.YtabkdmfnafeaeaaDoorQx42
import Derived.Test.YtabkdmfnafeaeaaDoorQxOp
import Derived.Test.YtabkdmfnafeaeaaDoorQx37
import Derived.Test.YtabkdmfnafeaeaaDoorQm1
import Derived.Test.YtabkdmfnafeaeaaDoorQx43
namespace Go.Proofs.YtabkdmfnafeaeaaDoor.HP
open Go.RowKit Go.Proofs.YtabkdmfnafeaeaaDoor.Q Go.Proofs.YtabkdmfnafeaeaaDoorW.PrintWords Go.Proofs.YtabkdmfnafeaeaaDoorW.PrintLast Go.Proofs.YtabkdmfnafeaeaaDoorW.PrintMore
theorem Ev.pos {α : Type} {c : Prop} [Decidable c] {a b : Nat → Option α} {r : α} (hc : c) (h : Ev a r) : Ev (fun k => if c then a k else b k) r := Ev.congr (fun _ => if_pos hc) h
theorem Ev.neg {α : Type} {c : Prop} [Decidable c] {a b : Nat → Option α} {r : α} (hc : ¬ c) (h : Ev b r) : Ev (fun k => if c then a k else b k) r := Ev.congr (fun _ => if_neg hc) h
theorem Ev.put {α β : Type} {x : β} {f : Nat → β → Option α} {r : α} (h : Ev (fun k => f k x) r) : Ev (fun k => (some x).bind (f k)) r := h
theorem Ev.call {α β : Type} {g : Option β} {x : β} {f : Nat → β → Option α} {r : α} (hg : g = some x) (h : Ev (fun k => f k x) r) : Ev (fun k => g.bind (f k)) r := by rw [hg]; exact h
theorem Ev.ret {α : Type} {a r : α} (h : a = r) : Ev (fun _ => some a) r := by rw [h]; exact Ev.now _
/-- a text of bytes -/
def B (l : List UInt8) : ByteArray := ⟨l.toArray⟩
theorem B_list (l : List UInt8) : (B l).data.toList = l := by simp [B]
theorem B_of (s : ByteArray) : B s.data.toList = s := by simp [B]
theorem B_size (l : List UInt8) : (B l).size = l.length := by simp [B, ByteArray.size]
theorem B_append (a b : List UInt8) : B a ++ B b = B (a ++ b) := by
  rw [← B_of (B a ++ B b)]
  congr 1
theorem B_toList (l : List UInt8) : (B l).toList = l := by rw [Lib.toList_data, B_list]
theorem B_bt (l : List UInt8) (i : Nat) (hi : i < l.length) : bt (B l) (i : Int) = ((l[i]).toNat : Int) := by
  unfold bt
  rw [dif_pos (by rw [Int.toNat_natCast, B_size]; exact hi)]
  simp only [Int.toNat_natCast]
  rfl
theorem B_extract (l : List UInt8) (i j : Nat) : (B l).extract i j = B ((l.drop i).take (j - i)) := by
  rw [← B_of ((B l).extract i j), Lib.extract_data, B_list]
theorem wrap_succ (i : Nat) (h : i < 9223372036854775807) : wrap64 ((i : Int) + 1) = ((i + 1 : Nat) : Int) := by unfold wrap64; omega
/-! cuts and splits -/
theorem occ_not {s sub : List UInt8} {c : UInt8} {t : List UInt8} (hs : sub = c :: t) (j : Nat) (h : s[j]? ≠ some c) : Lib.occAt s sub j = false := by
  cases ho : Lib.occAt s sub j with
  | false => rfl
  | true => exact absurd (Lib.occAt_head hs ho) h
theorem index_one (a b : List UInt8) (c : UInt8) (ha : c ∉ a) : Lib.index (a ++ c :: b) [c] = (a.length : Int) := by
  refine Lib.index_first (i := a.length) (by simp) ?_ (fun j hj => occ_not rfl j ?_)
  · simp [Lib.occAt]
  · rw [List.getElem?_append_left hj]
    intro h
    exact ha (List.mem_of_getElem? h)
theorem index_no (a : List UInt8) (c : UInt8) (t : List UInt8) (ha : c ∉ a) : Lib.index a (c :: t) = -1 := by
  refine Lib.index_none (fun j _ => occ_not rfl j ?_)
  intro h
  exact ha (List.mem_of_getElem? h)
theorem cut_one (a b : List UInt8) (c : UInt8) (ha : c ∉ a) : Lib.cut (a ++ c :: b) [c] = (a, b, true) := by
  unfold Lib.cut
  rw [index_one a b c ha, if_pos (by omega), Int.toNat_natCast, List.take_left' rfl]
  simp
theorem cut_no (a : List UInt8) (c : UInt8) (ha : c ∉ a) : Lib.cut a [c] = (a, [], false) := by
  unfold Lib.cut
  rw [index_no a c [] ha, if_neg (by omega)]
theorem Cut_is (s sep : List UInt8) (hs : s.length < 4294967281) : strings_Cut.f (B s) (B sep) = some (B (Lib.cut s sep).1, B (Lib.cut s sep).2.1, (Lib.cut s sep).2.2) := by
  unfold strings_Cut.f
  rw [if_pos (by rw [B_size]; exact hs), B_list, B_list]
  rfl
theorem Split_is (s sep : List UInt8) (hs : s.length < 4294967281) (h1 : 1 ≤ sep.length) : strings_Split.f (B s) (B sep) = some ((Lib.split s sep).map B) := by
  unfold strings_Split.f
  rw [if_pos ⟨by rw [B_size]; exact hs, by rw [B_size]; exact h1⟩]
  congr 1
  have h := Lib.splitB_data (B sep) 0 (Lib.countB (B s) (B sep)) (B s)
  rw [B_list, B_list] at h
  have hc : Lib.countB (B s) (B sep) = Lib.count s sep := by
    show Lib.count _ _ = _
    rw [B_list, B_list]
  unfold Lib.split
  rw [← hc, ← h, List.map_map]
  conv => lhs; rw [← List.map_id (Lib.splitB (B sep) 0 (Lib.countB (B s) (B sep)) (B s))]
  apply List.map_congr_left
  intro x _
  exact (B_of x).symm
/-! bytes -/
theorem N8_B (l : List UInt8) : bytesOf (B l) = l.map (fun b => (b.toNat : Int)) := by rw [bytesOf, B_list]
theorem N8_back (l : List UInt8) : Lib.bytesOf (l.map (fun b => (b.toNat : Int))) = l := by
  unfold Lib.bytesOf
  rw [List.map_map]
  conv => rhs; rw [← List.map_id l]
  apply List.map_congr_left
  intro b _
  simp
theorem strOf_N8 (l : List UInt8) : strOfNums (l.map (fun b => (b.toNat : Int))) = B l := by
  unfold strOfNums B
  congr 2
  exact N8_back l
theorem Lower_is (l : List UInt8) (hl : l.length ≤ 4294967296) : head_lower.f (B l) = some (B (l.map lowB)) := by
  unfold head_lower.f
  rw [if_pos (by rw [B_size]; omega), B_list]
  rfl
/-! tokens -/
def alB (b : UInt8) : Bool := decide (97 ≤ b.toNat ∧ b.toNat ≤ 122 ∨ 65 ≤ b.toNat ∧ b.toNat ≤ 90 ∨ 48 ≤ b.toNat ∧ b.toNat ≤ 57)
def tokB (b : UInt8) : Bool := alB b || decide (0 ≤ Lib.indexByte [33, 35, 36, 37, 38, 39, 42, 43, 45, 46, 94, 95, 96, 124, 126] b)
def tokOk (l : List UInt8) : Bool := l.all tokB && (l != [])
theorem alnum_is (b : UInt8) : head_alnum.f (b.toNat : Int) = some (alB b) := by
  unfold head_alnum.f alB
  repeat' split
  all_goals simp only [Option.some.injEq]
  all_goals first
    | (symm; rw [decide_eq_true_eq]; omega)
    | (rw [decide_eq_decide]; omega)
    | (symm; rw [decide_eq_false_iff_not]; omega)
theorem token_loop (l : List UInt8) (hl : l.length ≤ 4294967296) : ∀ (d i : Nat), i + d = l.length → Ev (fun k => head_token.l0 k (B l) (l.length : Int) (i : Int)) ((l.drop i).all tokB && (l != [])) := by
  intro d
  induction d with
  | zero =>
    intro i hi
    refine Ev.step (fun k => by simp only [head_token.l0]; rfl) (Ev.neg (by omega) (Ev.ret ?_))
    rw [B_toList, List.drop_eq_nil_of_le (by omega)]
    simp
  | succ d ih =>
    intro i hi
    have hlt : i < l.length := by omega
    have hw := wrap_succ i (by omega)
    have hd : l.drop i = l[i] :: l.drop (i + 1) := List.drop_eq_getElem_cons hlt
    have hx : (B l).extract (i : Int).toNat ((i + 1 : Nat) : Int).toNat = B [l[i]] := by
      rw [Int.toNat_natCast, Int.toNat_natCast, B_extract, hd, Nat.add_sub_cancel_left]
      rfl
    have hi' := ih (i + 1) (by omega)
    refine Ev.step (fun k => by simp only [head_token.l0]; rfl) ?_
    refine Ev.pos (by omega) (Ev.pos (by omega) (Ev.pos (by rw [B_size]; omega) ?_))
    rw [B_bt l i hlt, hw]
    refine Ev.call (alnum_is _) ?_
    rw [hd, List.all_cons]
    cases hA : alB l[i] with
    | true =>
      refine Ev.pos rfl ?_
      have ht : tokB l[i] = true := by simp [tokB, hA]
      rw [ht, Bool.true_and]
      exact hi'
    | false =>
      refine Ev.neg (by simp) (Ev.pos (by omega) (Ev.pos (by rw [B_size]; omega) ?_))
      rw [hx]
      have hc : strings_Contains.f (⟨#[33, 35, 36, 37, 38, 39, 42, 43, 45, 46, 94, 95, 96, 124, 126]⟩ : ByteArray) (B [l[i]]) = some (tokB l[i]) := by
        unfold strings_Contains.f
        rw [if_pos (by rw [B_size]; rfl), B_list]
        simp [tokB, hA]
      refine Ev.call hc ?_
      cases ht : tokB l[i] with
      | true => exact Ev.pos rfl (by rw [Bool.true_and]; exact hi')
      | false => exact Ev.neg (by simp) (Ev.ret (by simp))
theorem token_is (l : List UInt8) (hl : l.length ≤ 4294967296) : Ev (fun k => head_token.f k (B l)) (tokOk l) := by
  unfold head_token.f
  rw [B_size]
  exact token_loop l hl l.length 0 (by omega)
/-! values -/
def blankB (b : UInt8) : Bool := decide (b.toNat = 9 ∨ b.toNat = 32)
def valB (b : UInt8) : Bool := decide ((b.toNat = 9 ∨ 32 ≤ b.toNat) ∧ b.toNat ≠ 127)
def endsOk (l : List UInt8) : Bool := match l with
  | [] => true
  | x :: r => !blankB x && !blankB ((x :: r).getLastD 0)
def valOk (l : List UInt8) : Bool := l.all valB && endsOk l
theorem blank_is (b : UInt8) : head_blank.f (b.toNat : Int) = some (blankB b) := by
  unfold head_blank.f blankB
  split
  · rename_i h
    simp only [Option.some.injEq]
    symm
    rw [decide_eq_true_eq]
    omega
  · rename_i h
    simp only [Option.some.injEq]
    rw [show ((b.toNat : Int) == 32) = decide ((b.toNat : Int) = 32) from rfl, decide_eq_decide]
    omega
theorem value_loop (l : List UInt8) (hl : l.length ≤ 4294967296) : ∀ (d i : Nat), i + d = l.length → Ev (fun k => head_value.l0 k (B l) (l.length : Int) (i : Int)) ((l.drop i).all valB && endsOk l) := by
  intro d
  induction d with
  | zero =>
    intro i hi
    refine Ev.step (fun k => by simp only [head_value.l0]; rfl) (Ev.neg (by omega) ?_)
    rw [B_toList, List.drop_eq_nil_of_le (by omega), List.all_nil, Bool.true_and]
    cases hc : l with
    | nil => exact Ev.pos rfl (Ev.ret rfl)
    | cons x r =>
      have hE : endsOk (x :: r) = (!blankB x && !blankB (l.getLastD 0)) := by rw [hc]; rfl
      rw [hE, ← hc]
      clear hE
      have h0 : 0 < l.length := by rw [hc]; simp
      have hb0 : bt (B l) 0 = (x.toNat : Int) := by
        have := B_bt l 0 h0
        simpa [hc] using this
      have hw : wrap64 (((B l).size : Int) - 1) = ((l.length - 1 : Nat) : Int) := by rw [B_size]; unfold wrap64; omega
      have hbl : bt (B l) ((l.length - 1 : Nat) : Int) = ((l.getLastD 0).toNat : Int) := by
        rw [B_bt l (l.length - 1) (by omega)]
        congr 2
        rw [List.getLastD_eq_getLast?, List.getLast?_eq_getElem?, List.getElem?_eq_getElem (by omega)]
        rfl
      refine Ev.neg (by rw [hc]; simp) (Ev.pos (by rw [B_size]; omega) ?_)
      rw [hb0]
      refine Ev.call (blank_is x) ?_
      cases hx : blankB x with
      | true => exact Ev.pos rfl (Ev.ret rfl)
      | false =>
        refine Ev.neg (by simp) ?_
        rw [hw, hbl]
        exact Ev.pos (by omega) (Ev.pos (by rw [B_size]; omega) (Ev.call (blank_is _) (Ev.ret (by simp))))
  | succ d ih =>
    intro i hi
    have hlt : i < l.length := by omega
    have hw := wrap_succ i (by omega)
    have hd : l.drop i = l[i] :: l.drop (i + 1) := List.drop_eq_getElem_cons hlt
    have hi' := ih (i + 1) (by omega)
    refine Ev.step (fun k => by simp only [head_value.l0]; rfl) ?_
    refine Ev.pos (by omega) (Ev.pos (by omega) (Ev.pos (by rw [B_size]; omega) ?_))
    rw [B_bt l i hlt, hw, hd, List.all_cons]
    cases hv : valB l[i] with
    | true =>
      have hv' : (l[i].toNat = 9 ∨ 32 ≤ l[i].toNat) ∧ l[i].toNat ≠ 127 := of_decide_eq_true hv
      rw [Bool.true_and]
      by_cases h9 : (l[i].toNat : Int) = 9
      · exact Ev.pos h9 (Ev.neg (by omega) hi')
      · exact Ev.neg h9 (Ev.neg (by omega) (Ev.neg (by omega) hi'))
    | false =>
      have hv' : ¬ ((l[i].toNat = 9 ∨ 32 ≤ l[i].toNat) ∧ l[i].toNat ≠ 127) := of_decide_eq_false hv
      rw [Bool.false_and, Bool.false_and]
      by_cases h9 : (l[i].toNat : Int) = 9
      · exact absurd hv' (by omega)
      · refine Ev.neg h9 ?_
        by_cases h32 : (l[i].toNat : Int) < 32
        · exact Ev.pos h32 (Ev.ret rfl)
        · exact Ev.neg h32 (Ev.pos (by omega) (Ev.ret rfl))
theorem value_is (l : List UInt8) (hl : l.length ≤ 4294967296) : Ev (fun k => head_value.f k (B l)) (valOk l) := by
  unfold head_value.f
  rw [B_size]
  exact value_loop l hl l.length 0 (by omega)
end Go.Proofs.YtabkdmfnafeaeaaDoor.HP
namespace Go.Proofs.YtabkdmfnafeaeaaDoor.HP
open Go.RowKit Go.Proofs.YtabkdmfnafeaeaaDoor.Q Go.Proofs.YtabkdmfnafeaeaaDoorW.PrintWords Go.Proofs.YtabkdmfnafeaeaaDoorW.PrintLast Go.Proofs.YtabkdmfnafeaeaaDoorW.PrintMore
/-! lines joined -/
def joinL : List (List UInt8) → List UInt8
  | [] => []
  | [a] => a
  | a :: b :: r => a ++ 13 :: 10 :: joinL (b :: r)
theorem join_flat : ∀ (ls : List (List UInt8)), ls ≠ [] → joinL ls ++ [13, 10] = ls.flatMap (fun a => a ++ [13, 10])
  | [], h => absurd rfl h
  | [a], _ => by simp [joinL]
  | a :: b :: r, _ => by
    have ih := join_flat (b :: r) (by simp)
    rw [List.flatMap_cons, ← ih]
    simp [joinL]
/-! fields -/
def hostL : List UInt8 := [104, 111, 115, 116]
def verL : List UInt8 := [72, 84, 84, 80, 47, 49, 46, 49]
def lineOf (f : List UInt8 × List UInt8) : List UInt8 := f.1 ++ 58 :: f.2
def low (f : List UInt8 × List UInt8) : List UInt8 := f.1.map lowB
def hosts (fs : List (List UInt8 × List UInt8)) : Nat := fs.countP (fun f => low f == hostL)
def firstL (m t : List UInt8) : List UInt8 := m ++ 32 :: (t ++ 32 :: verL)
def linesL (m t : List UInt8) (fs : List (List UInt8 × List UInt8)) : List (List UInt8) := firstL m t :: fs.map lineOf
def headL (m t : List UInt8) (fs : List (List UInt8 × List UInt8)) : List UInt8 := joinL (linesL m t fs) ++ [13, 10, 13, 10]
theorem head_flat (m t : List UInt8) (fs : List (List UInt8 × List UInt8)) : headL m t fs = (linesL m t fs).flatMap (fun a => a ++ [13, 10]) ++ [13, 10] := by
  rw [← join_flat _ (by simp [linesL])]
  simp [headL]
end Go.Proofs.YtabkdmfnafeaeaaDoor.HP
namespace Go.Proofs.YtabkdmfnafeaeaaDoor.HP
open Go.RowKit Go.Proofs.YtabkdmfnafeaeaaDoor.Q Go.Proofs.YtabkdmfnafeaeaaDoorW.PrintWords Go.Proofs.YtabkdmfnafeaeaaDoorW.PrintLast Go.Proofs.YtabkdmfnafeaeaaDoorW.PrintMore
/-! paths and queries -/
def hexB (b : UInt8) : Bool := decide (48 ≤ b.toNat ∧ b.toNat ≤ 57 ∨ 97 ≤ b.toNat ∧ b.toNat ≤ 102 ∨ 65 ≤ b.toNat ∧ b.toNat ≤ 70)
def pchB (b : UInt8) : Bool := alB b || decide (0 ≤ Lib.indexByte [47, 45, 46, 95, 126, 33, 36, 38, 39, 40, 41, 42, 43, 44, 59, 61, 58, 64] b)
def two : List UInt8 → Bool
  | a :: b :: _ => hexB a && hexB b
  | _ => false
theorem two_short : ∀ (l : List UInt8), l.length < 2 → two l = false
  | [], _ => rfl
  | [_], _ => rfl
  | _ :: _ :: _, h => by simp at h; omega
def atB (q : Bool) : List UInt8 → Bool
  | [] => true
  | c :: r => if c.toNat = 37 then two r else if c.toNat = 63 ∧ q = true then true else pchB c
theorem atB_cons (q : Bool) (c : UInt8) (r : List UInt8) : atB q (c :: r) = if c.toNat = 37 then two r else if c.toNat = 63 ∧ q = true then true else pchB c := rfl
def suchL (q : Bool) : List UInt8 → Bool
  | [] => true
  | c :: r => atB q (c :: r) && suchL q r
theorem hex_is (b : UInt8) : head_hex.f (b.toNat : Int) = some (hexB b) := by
  unfold head_hex.f hexB
  repeat' split
  all_goals simp only [Option.some.injEq]
  all_goals first
    | (symm; rw [decide_eq_true_eq]; omega)
    | (rw [decide_eq_decide]; omega)
    | (symm; rw [decide_eq_false_iff_not]; omega)
theorem such_loop (q : Bool) (l : List UInt8) (hl : l.length ≤ 4294967296) : ∀ (d i : Nat), i + d = l.length → Ev (fun k => head_such.l0 k (B l) q (i : Int)) (suchL q (l.drop i)) := by
  intro d
  induction d with
  | zero =>
    intro i hi
    refine Ev.step (fun k => by simp only [head_such.l0]; rfl) (Ev.neg (by rw [B_size]; omega) (Ev.ret ?_))
    rw [List.drop_eq_nil_of_le (by omega)]
    rfl
  | succ d ih =>
    intro i hi
    have hlt : i < l.length := by omega
    have hw := wrap_succ i (by omega)
    have hw2 : wrap64 ((i : Int) + 2) = ((i + 2 : Nat) : Int) := by unfold wrap64; omega
    have hd : l.drop i = l[i] :: l.drop (i + 1) := List.drop_eq_getElem_cons hlt
    have hi' := ih (i + 1) (by omega)
    have hx : (B l).extract (i : Int).toNat ((i + 1 : Nat) : Int).toNat = B [l[i]] := by
      rw [Int.toNat_natCast, Int.toNat_natCast, B_extract, hd, Nat.add_sub_cancel_left]
      rfl
    have hc : strings_Contains.f (⟨#[47, 45, 46, 95, 126, 33, 36, 38, 39, 40, 41, 42, 43, 44, 59, 61, 58, 64]⟩ : ByteArray) (B [l[i]]) = some (decide (0 ≤ Lib.indexByte [47, 45, 46, 95, 126, 33, 36, 38, 39, 40, 41, 42, 43, 44, 59, 61, 58, 64] l[i])) := by
      unfold strings_Contains.f
      rw [if_pos (by rw [B_size]; rfl), B_list]
      rfl
    have hws : wrap64 (((B l).size : Int) - (i : Int)) = ((l.length - i : Nat) : Int) := by rw [B_size]; unfold wrap64; omega
    rw [hd]
    show Ev _ (atB q (l[i] :: l.drop (i + 1)) && suchL q (l.drop (i + 1)))
    have hJ2 : l[i].toNat ≠ 37 → ¬ (l[i].toNat = 63 ∧ q = true) → Ev (fun k => head_such.j2 k (B l) q (i : Int) (l[i].toNat : Int)) (atB q (l[i] :: l.drop (i + 1)) && suchL q (l.drop (i + 1))) := by
      intro h37 h63
      refine Ev.step (fun k => by simp only [head_such.j2]; rfl) ?_
      refine Ev.call (alnum_is _) ?_
      have hat : atB q (l[i] :: l.drop (i + 1)) = pchB l[i] := by
        rw [atB_cons, if_neg h37, if_neg h63]
      rw [hat, hw]
      cases hA : alB l[i] with
      | true =>
        have hp : pchB l[i] = true := by simp [pchB, hA]
        rw [hp, Bool.true_and]
        exact Ev.pos rfl hi'
      | false =>
        refine Ev.neg (by simp) (Ev.pos (by omega) (Ev.pos (by omega) (Ev.pos (by rw [B_size]; omega) ?_)))
        rw [hx]
        refine Ev.call hc ?_
        cases hD : decide (0 ≤ Lib.indexByte [47, 45, 46, 95, 126, 33, 36, 38, 39, 40, 41, 42, 43, 44, 59, 61, 58, 64] l[i]) with
        | true =>
          have hp : pchB l[i] = true := by simp only [pchB, hD, Bool.or_true]
          rw [hp, Bool.true_and]
          exact Ev.pos rfl hi'
        | false =>
          have hp : pchB l[i] = false := by simp only [pchB, hA, hD, Bool.or_false]
          rw [hp, Bool.false_and]
          exact Ev.neg (by simp) (Ev.ret rfl)
    refine Ev.step (fun k => by simp only [head_such.l0]; rfl) ?_
    refine Ev.pos (by rw [B_size]; omega) (Ev.pos (by omega) ?_)
    rw [B_bt l i hlt]
    by_cases h37 : l[i].toNat = 37
    · refine Ev.pos (by omega) ?_
      rw [hws]
      have hat : atB q (l[i] :: l.drop (i + 1)) = two (l.drop (i + 1)) := by
        rw [atB_cons, if_pos h37]
      rw [hat]
      by_cases h3 : l.length - i < 3
      · have hF : two (l.drop (i + 1)) = false := two_short _ (by rw [List.length_drop]; omega)
        rw [hF, Bool.false_and]
        refine Ev.pos (by omega) ?_
        refine Ev.step (fun k => by simp only [head_such.j1]; rfl) ?_
        exact Ev.pos (by trivial) (Ev.ret rfl)
      · have h1 : i + 1 < l.length := by omega
        have h2 : i + 2 < l.length := by omega
        have hd1 : l.drop (i + 1) = l[i + 1] :: l[i + 2] :: l.drop (i + 3) := by
          rw [List.drop_eq_getElem_cons h1, List.drop_eq_getElem_cons h2]
        have hM : two (l.drop (i + 1)) = (hexB l[i + 1] && hexB l[i + 2]) := by rw [hd1]; rfl
        rw [hM, hw, hw2]
        refine Ev.neg (by omega) (Ev.pos (by omega) (Ev.pos (by rw [B_size]; omega) ?_))
        rw [B_bt l (i + 1) h1]
        refine Ev.call (hex_is _) ?_
        cases hA : hexB l[i + 1] with
        | false =>
          refine Ev.neg (by simp) ?_
          rw [Bool.false_and, Bool.false_and]
          refine Ev.step (fun k => by simp only [head_such.j1]; rfl) ?_
          exact Ev.pos (by trivial) (Ev.ret rfl)
        | true =>
          refine Ev.pos rfl (Ev.pos (by omega) (Ev.pos (by rw [B_size]; omega) ?_))
          rw [B_bt l (i + 2) h2]
          refine Ev.call (hex_is _) ?_
          cases hA2 : hexB l[i + 2] with
          | false =>
            rw [Bool.and_false, Bool.false_and]
            refine Ev.step (fun k => by simp only [head_such.j1]; rfl) ?_
            exact Ev.pos (by trivial) (Ev.ret rfl)
          | true =>
            rw [Bool.and_true, Bool.true_and]
            refine Ev.step (fun k => by simp only [head_such.j1]; rfl) (Ev.neg (by decide) ?_)
            rw [hw]
            exact hi'
    · refine Ev.neg (by omega) ?_
      by_cases h63 : l[i].toNat = 63
      · refine Ev.pos (by omega) ?_
        by_cases hq : q = true
        · refine Ev.pos hq ?_
          have hat : atB q (l[i] :: l.drop (i + 1)) = true := by
            rw [atB_cons, if_neg h37, if_pos ⟨h63, hq⟩]
          rw [hat, Bool.true_and, hw]
          exact hi'
        · exact Ev.neg hq (hJ2 h37 (fun h => hq h.2))
      · exact Ev.neg (by omega) (hJ2 h37 (fun h => h63 h.1))
theorem such_is (q : Bool) (l : List UInt8) (hl : l.length ≤ 4294967296) : Ev (fun k => head_such.f k (B l) q) (suchL q l) := such_loop q l hl l.length 0 (by omega)
def pathL (l : List UInt8) : Bool := if Lib.hasPrefix l [47] = true then suchL false l else false
theorem path_is (l : List UInt8) (hl : l.length ≤ 4294967296) : Ev (fun k => head_path.f k (B l)) (pathL l) := by
  have hp : strings_HasPrefix.f (B l) (⟨#[47]⟩ : ByteArray) = some (Lib.hasPrefix l [47]) := by
    unfold strings_HasPrefix.f
    rw [B_list]
  unfold head_path.f pathL
  refine Ev.call hp ?_
  by_cases h : Lib.hasPrefix l [47] = true
  · rw [if_pos h]
    exact Ev.pos h (Ev.bind (such_is false l hl) (Ev.ret rfl))
  · rw [if_neg h]
    exact Ev.neg h (Ev.ret rfl)
def tgt (p q : List UInt8) : List UInt8 := p ++ (if q = [] then [] else 63 :: q)
theorem splitK_len (sub : List UInt8) : ∀ (k : Nat) (s : List UInt8), (Lib.splitK sub 0 k s).length ≤ k + 1 ∧ ∀ p ∈ Lib.splitK sub 0 k s, p.length ≤ s.length := by
  intro k
  induction k with
  | zero => intro s; simp [Lib.splitK]
  | succ k ih =>
    intro s
    simp only [Lib.splitK]
    split
    · simp
    · have h := ih (s.drop ((Lib.index s sub).toNat + sub.length))
      refine ⟨by simp only [List.length_cons]; omega, ?_⟩
      intro p hp
      rcases List.mem_cons.1 hp with rfl | hp
      · simp
        omega
      · have := h.2 p hp
        rw [List.length_drop] at this
        omega
theorem countFrom_le (sub : List UInt8) : ∀ (k : Nat) (s : List UInt8), Lib.countFrom sub k s ≤ k
  | 0, _ => Nat.le_refl _
  | k + 1, s => by
    unfold Lib.countFrom
    split
    · omega
    · have := countFrom_le sub k (s.drop ((Lib.index s sub).toNat + sub.length))
      omega
theorem split_len (s sub : List UInt8) : (Lib.split s sub).length ≤ s.length + 2 ∧ ∀ p ∈ Lib.split s sub, p.length ≤ s.length := by
  have h1 := splitK_len sub (Lib.count s sub) s
  have h2 : Lib.count s sub ≤ s.length + 1 := countFrom_le sub _ s
  unfold Lib.split
  exact ⟨by omega, h1.2⟩
end Go.Proofs.YtabkdmfnafeaeaaDoor.HP
namespace Go.Proofs.YtabkdmfnafeaeaaDoor.HP
open Go.RowKit Go.Proofs.YtabkdmfnafeaeaaDoor.Q Go.Proofs.YtabkdmfnafeaeaaDoorW.PrintWords Go.Proofs.YtabkdmfnafeaeaaDoorW.PrintLast Go.Proofs.YtabkdmfnafeaeaaDoorW.PrintMore
theorem Ev.res {α : Type} {g : Nat → Option α} {a r : α} (h : Ev g a) (e : a = r) : Ev g r := e ▸ h
def hbB (b : UInt8) : Bool := alB b || decide (b.toNat = 45)
def partOk (p : List UInt8) : Bool := p.all hbB && (p != [])
def hostS (l : List UInt8) : List UInt8 × Bool :=
  if (Lib.cut l [58]).2.1.all digB = true ∧ (Lib.cut l [58]).2.1.length ≤ 5 ∧ (Lib.cut l [58]).1.length ≤ 64 ∧ (Lib.split (Lib.cut l [58]).1 [46]).all partOk = true then ((Lib.cut l [58]).1.map lowB, true) else ([], false)
def hostR (l : List UInt8) : ByteArray × Bool := (B (hostS l).1, (hostS l).2)
theorem hostP_is (x4 : ByteArray) (parts : List ByteArray) (n i : Int) (p : List UInt8) (hl : p.length ≤ 4294967296) (r : ByteArray × Bool)
    (h : Ev (fun k => head_HostX.l0 k x4 parts n (wrap64 (i + 1))) r) : ∀ (d j : Nat), j + d = p.length → Ev (fun k => head_HostX.l1 k x4 (B p) parts n i (p.length : Int) (j : Int)) (if ((p.drop j).all hbB && (p != [])) = true then r else (B [], false)) := by
  intro d
  induction d with
  | zero =>
    intro j hj
    rw [List.drop_eq_nil_of_le (by omega), List.all_nil, Bool.true_and]
    by_cases hp : p = []
    · rw [if_neg (by simp [hp])]
      exact Ev.step (fun k => by simp only [head_HostX.l1]; rfl) (Ev.neg (by omega) (Ev.pos (by rw [B_toList]; exact hp) (Ev.ret rfl)))
    · rw [if_pos (by simp [hp])]
      exact Ev.step (fun k => by simp only [head_HostX.l1]; rfl) (Ev.neg (by omega) (Ev.neg (by rw [B_toList]; exact hp) h))
  | succ d ih =>
    intro j hj
    have hr := ih (j + 1) (by omega)
    have hw := wrap_succ j (by omega)
    rw [← hw] at hr
    have hlt : j < p.length := by omega
    have hb := B_bt p j hlt
    have hd : p.drop j = p[j] :: p.drop (j + 1) := List.drop_eq_getElem_cons hlt
    rw [hd, List.all_cons]
    refine Ev.step (fun k => by simp only [head_HostX.l1]; rfl) (Ev.pos (by omega) (Ev.pos (by omega) (Ev.pos (by rw [B_size]; omega) ?_)))
    rw [hb]
    refine Ev.call (alnum_is _) ?_
    cases hA : alB p[j] with
    | true =>
      rw [show hbB p[j] = true by simp [hbB, hA], Bool.true_and]
      exact Ev.pos rfl hr
    | false =>
      refine Ev.neg (by simp) ?_
      by_cases h45 : p[j].toNat = 45
      · rw [show hbB p[j] = true by simp [hbB, h45], Bool.true_and]
        exact Ev.pos (by omega) hr
      · rw [show hbB p[j] = false by simp [hbB, hA, h45], Bool.false_and, Bool.false_and, if_neg (by simp)]
        exact Ev.neg (by omega) (Ev.ret rfl)
theorem hostL_is (h : List UInt8) (hh : h.length ≤ 4294967296) (ps : List (List UInt8)) (hps : ps.length ≤ 4294967296) (hb : ∀ p ∈ ps, p.length ≤ 4294967296) :
    ∀ (d i : Nat), i + d = ps.length → Ev (fun k => head_HostX.l0 k (B h) (ps.map B) (ps.length : Int) (i : Int)) (if (ps.drop i).all partOk = true then (B (h.map lowB), true) else (B [], false)) := by
  intro d
  induction d with
  | zero =>
    intro i hi
    rw [List.drop_eq_nil_of_le (by omega), List.all_nil, if_pos rfl]
    exact Ev.step (fun k => by simp only [head_HostX.l0]; rfl) (Ev.neg (by omega) (Ev.call (Lower_is h hh) (Ev.ret rfl)))
  | succ d ih =>
    intro i hi
    have hw := wrap_succ i (by omega)
    have hlt : i < ps.length := by omega
    have h1 := ih (i + 1) (by omega)
    rw [← hw] at h1
    have hr := hostP_is (B h) (ps.map B) (ps.length : Int) (i : Int) ps[i] (hb _ (List.getElem_mem hlt)) _ h1 ps[i].length 0 (by omega)
    have hrd : rdOf ByteArray.empty (ps.map B) (i : Int) = B ps[i] := by simp [rdOf, hlt]
    have hd : ps.drop i = ps[i] :: ps.drop (i + 1) := List.drop_eq_getElem_cons hlt
    refine Ev.step (fun k => by simp only [head_HostX.l0]; rfl) (Ev.pos (by omega) (Ev.pos (by omega) (Ev.pos (by rw [List.length_map]; omega) ?_)))
    rw [hrd, B_size, hd, List.all_cons]
    rw [List.drop_zero] at hr
    refine Ev.res hr ?_
    show (if partOk ps[i] = true then _ else _) = _
    cases partOk ps[i] <;> simp
theorem hostX_is (l : List UInt8) (hl : l.length ≤ 1000000000) (hd : (Lib.cut l [58]).2.1.all digB = true) : Ev (fun k => head_HostX.f k (B l)) (hostR l) := by
  have hc : strings_Cut.f (B l) (⟨#[58]⟩ : ByteArray) = some (B (Lib.cut l [58]).1, B (Lib.cut l [58]).2.1, (Lib.cut l [58]).2.2) := Cut_is l [58] (by omega)
  have hle : (Lib.cut l [58]).1.length ≤ l.length := by
    unfold Lib.cut
    split
    · simp
      omega
    · exact Nat.le_refl _
  unfold hostR hostS
  generalize (Lib.cut l [58]).1 = h at hc hle ⊢
  generalize (Lib.cut l [58]).2.1 = port at hc hd ⊢
  unfold head_HostX.f
  by_cases h5 : port.length ≤ 5
  · by_cases h64 : h.length ≤ 64
    · refine Ev.call hc (Ev.neg (by rw [B_size]; omega) ?_)
      rw [show decide (((B h).size : Int) > 64) = false by rw [B_size]; exact decide_eq_false (by omega)]
      have hs : strings_Split.f (B h) (⟨#[46]⟩ : ByteArray) = some ((Lib.split h [46]).map B) := Split_is h [46] (by omega) (by decide)
      obtain ⟨s1, s2⟩ := split_len h [46]
      have hr := hostL_is h (by omega) (Lib.split h [46]) (by omega) (fun p hp => by have := s2 p hp; omega) (Lib.split h [46]).length 0 (by omega)
      rw [List.drop_zero] at hr
      refine Ev.step (fun k => by simp only [head_HostX.j0]; rfl) (Ev.neg (by simp) (Ev.call hs ?_))
      rw [List.length_map]
      refine Ev.res hr ?_
      by_cases hp : (Lib.split h [46]).all partOk = true
      · rw [if_pos hp, if_pos ⟨hd, h5, h64, hp⟩]
      · rw [if_neg hp, if_neg (fun hh => hp hh.2.2.2)]
    · rw [if_neg (fun hh => h64 hh.2.2.1)]
      refine Ev.call hc (Ev.neg (by rw [B_size]; omega) ?_)
      rw [show decide (((B h).size : Int) > 64) = true by rw [B_size]; exact decide_eq_true (by omega)]
      exact Ev.step (fun k => by simp only [head_HostX.j0]; rfl) (Ev.pos (by trivial) (Ev.ret rfl))
  · rw [if_neg (fun hh => h5 hh.2.1)]
    exact Ev.call hc (Ev.pos (by rw [B_size]; omega) (Ev.step (fun k => by simp only [head_HostX.j0]; rfl) (Ev.pos (by trivial) (Ev.ret rfl))))
/-- THE LAW: what Host tells -/
theorem host_is (l : List UInt8) (hl : l.length ≤ 1000000000) : Ev (fun k => head_Host.f k (B l)) (hostR l) := by
  have hc : strings_Cut.f (B l) (⟨#[58]⟩ : ByteArray) = some (B (Lib.cut l [58]).1, B (Lib.cut l [58]).2.1, (Lib.cut l [58]).2.2) := Cut_is l [58] (by omega)
  unfold head_Host.f
  by_cases h : (Lib.cut l [58]).2.1.all digB = true
  · exact Ev.call hc (Ev.pos (by rw [B_list]; exact h) (hostX_is l hl h))
  · refine Ev.call hc (Ev.neg (by rw [B_list]; exact h) (Ev.ret ?_))
    unfold hostR hostS
    rw [if_neg (fun hh => h hh.1)]
    rfl
/-! cuts and splits at one byte, by recursion -/
def cutC (c : UInt8) : List UInt8 → List UInt8 × List UInt8 × Bool
  | [] => ([], [], false)
  | b :: l => if b = c then ([], l, true) else (b :: (cutC c l).1, (cutC c l).2)
def splitC (c : UInt8) : List UInt8 → List (List UInt8)
  | [] => [[]]
  | b :: l => if b = c then [] :: splitC c l else match splitC c l with
    | [] => [[b]]
    | x :: r => (b :: x) :: r
theorem at_first (c : UInt8) : ∀ (s : List UInt8), c ∉ s ∨ ∃ a b, s = a ++ c :: b ∧ c ∉ a
  | [] => .inl (by simp)
  | x :: s => by
    by_cases hx : x = c
    · exact .inr ⟨[], s, by simp [hx], by simp⟩
    · rcases at_first c s with h | ⟨a, b, rfl, ha⟩
      · exact .inl (by simp [h]; exact fun e => hx e.symm)
      · exact .inr ⟨x :: a, b, rfl, by simp [ha]; exact fun e => hx e.symm⟩
theorem cutC_no (c : UInt8) : ∀ (a : List UInt8), c ∉ a → cutC c a = (a, [], false)
  | [], _ => rfl
  | x :: a, h => by
    have hx : x ≠ c := fun e => h (by simp [e])
    rw [cutC, if_neg hx, cutC_no c a (fun hm => h (by simp [hm]))]
theorem cutC_one (c : UInt8) (b : List UInt8) : ∀ (a : List UInt8), c ∉ a → cutC c (a ++ c :: b) = (a, b, true)
  | [], _ => by simp [cutC]
  | x :: a, h => by
    have hx : x ≠ c := fun e => h (by simp [e])
    rw [List.cons_append, cutC, if_neg hx, cutC_one c b a (fun hm => h (by simp [hm]))]
theorem cut_is (c : UInt8) (s : List UInt8) : Lib.cut s [c] = cutC c s := by
  rcases at_first c s with h | ⟨a, b, rfl, ha⟩
  · rw [cut_no s c h, cutC_no c s h]
  · rw [cut_one a b c ha, cutC_one c b a ha]
theorem splitC_no (c : UInt8) : ∀ (a : List UInt8), c ∉ a → splitC c a = [a]
  | [], _ => rfl
  | x :: a, h => by
    have hx : x ≠ c := fun e => h (by simp [e])
    rw [splitC, if_neg hx, splitC_no c a (fun hm => h (by simp [hm]))]
theorem splitC_one (c : UInt8) (b : List UInt8) : ∀ (a : List UInt8), c ∉ a → splitC c (a ++ c :: b) = a :: splitC c b
  | [], _ => by simp [splitC]
  | x :: a, h => by
    have hx : x ≠ c := fun e => h (by simp [e])
    rw [List.cons_append, splitC, if_neg hx, splitC_one c b a (fun hm => h (by simp [hm]))]
theorem split_one (a b : List UInt8) (c : UInt8) (ha : c ∉ a) : Lib.split (a ++ c :: b) [c] = a :: Lib.split b [c] := by
  have h := index_one a b c ha
  unfold Lib.split
  rw [Lib.count_hit (by simp) h, Nat.add_comm]
  have hd : (a ++ c :: b).drop (a.length + 1) = b := by simp
  simp only [Lib.splitK]
  rw [h, if_neg (by simp), Int.toNat_natCast, Nat.add_zero, List.take_left' rfl, show ([c] : List UInt8).length = 1 from rfl, hd]
theorem split_one_no (a : List UInt8) (c : UInt8) (ha : c ∉ a) : Lib.split a [c] = [a] := by
  unfold Lib.split
  rw [Lib.count_miss (index_no a c [] ha)]
  rfl
theorem split_is (c : UInt8) : ∀ (n : Nat) (s : List UInt8), s.length ≤ n → Lib.split s [c] = splitC c s := by
  intro n
  induction n with
  | zero =>
    intro s hs
    have : s = [] := List.eq_nil_of_length_eq_zero (by omega)
    subst this
    exact split_one_no [] c (by simp)
  | succ n ih =>
    intro s hs
    rcases at_first c s with h | ⟨a, b, rfl, ha⟩
    · rw [split_one_no s c h, splitC_no c s h]
    · rw [split_one a b c ha, splitC_one c b a ha, ih b (by simp at hs; omega)]
end Go.Proofs.YtabkdmfnafeaeaaDoor.HP
namespace Go.Proofs.YtabkdmfnafeaeaaDoor.HP
open Go.RowKit Go.Proofs.YtabkdmfnafeaeaaDoor.Q Go.Proofs.YtabkdmfnafeaeaaDoorW.PrintWords Go.Proofs.YtabkdmfnafeaeaaDoorW.PrintLast Go.Proofs.YtabkdmfnafeaeaaDoorW.PrintMore
abbrev Fd := List UInt8 × List UInt8
def sF (f : Fd) : S38 := ⟨B f.1, B f.2⟩
def fOk (hh : List UInt8) (f : Fd) : Bool := tokOk f.1 && decide (f.1.map lowB = f.1) && valOk f.2 && (decide (f.1 ≠ hostL) || decide (hostS f.2 = (hh, true)))
def wOk (m p q hh : List UInt8) (fs : List Fd) : Bool := tokOk m && pathL p && suchL true q && fs.all (fOk hh)
def nh (fs : List Fd) : Nat := fs.countP (fun f => decide (f.1 = hostL))
def wf (f : Fd) : Fd := (f.1, 32 :: f.2)
def writeL (m p q : List UInt8) (fs : List Fd) : List UInt8 := headL m (tgt p q) (fs.map wf)
def szF (fs : List Fd) : Nat := (fs.map (fun f => f.1.length + f.2.length + 4)).sum
theorem flat_len (fs : List Fd) : ((fs.map wf).map lineOf).flatMap (fun a => a ++ [13, 10]) = fs.flatMap (fun f => f.1 ++ 58 :: 32 :: (f.2 ++ [13, 10])) := by
  rw [List.flatMap_map, List.flatMap_map]
  congr 1
  funext f
  simp [lineOf, wf]
theorem writeL_flat (m p q : List UInt8) (fs : List Fd) : writeL m p q fs = (m ++ 32 :: (tgt p q ++ 32 :: (verL ++ [13, 10]))) ++ fs.flatMap (fun f => f.1 ++ 58 :: 32 :: (f.2 ++ [13, 10])) ++ [13, 10] := by
  unfold writeL
  rw [head_flat]
  unfold linesL
  rw [List.flatMap_cons, flat_len]
  simp [firstL]
theorem flat_sz (fs : List Fd) : (fs.flatMap (fun f => f.1 ++ 58 :: 32 :: (f.2 ++ [13, 10]))).length = szF fs := by
  induction fs with
  | nil => rfl
  | cons f fs ih =>
    rw [List.flatMap_cons, List.length_append, ih]
    simp [szF]
    omega
theorem sz_mem {fs : List Fd} {f : Fd} (hf : f ∈ fs) : f.1.length + f.2.length + 4 ≤ szF fs := by
  induction fs with
  | nil => simp at hf
  | cons g fs ih =>
    rcases List.mem_cons.1 hf with rfl | h
    · simp [szF]
    · have := ih h
      simp [szF] at this ⊢
      omega
theorem tgt_length (p q : List UInt8) : p.length + q.length ≤ (tgt p q).length := by
  unfold tgt
  split
  · rename_i h
    simp [h]
  · simp
end Go.Proofs.YtabkdmfnafeaeaaDoor.HP
namespace Go.Proofs.YtabkdmfnafeaeaaDoor.HP
open Go.RowKit Go.Proofs.YtabkdmfnafeaeaaDoor.Q Go.Proofs.YtabkdmfnafeaeaaDoorW.PrintWords Go.Proofs.YtabkdmfnafeaeaaDoorW.PrintLast Go.Proofs.YtabkdmfnafeaeaaDoorW.PrintMore
theorem N8_app (a b : List UInt8) : bytesOf (B a) ++ bytesOf (B b) = bytesOf (B (a ++ b)) := by rw [N8_B, N8_B, N8_B, List.map_append]
theorem N8_len (a : List UInt8) : (bytesOf (B a)).length = a.length := by rw [N8_B, List.length_map]
theorem rd_F (fs : List Fd) (i : Nat) (hi : i < fs.length) : rd_T38 (fs.map sF) (i : Int) = sF fs[i] := by simp [rd_T38, hi]
def W2 (m p q : List UInt8) (fs : List Fd) (ok : Bool) (n : Nat) : List Int × Int :=
  if ok = true ∧ n = 1 then (if 32 < fs.length ∨ 2048 < (writeL m p q fs).length then ([], 6) else (bytesOf (B (writeL m p q fs)), 0)) else ([], 4)
theorem W2_a (m p q : List UInt8) (fs : List Fd) (h : 32 < fs.length ∨ 2048 < (writeL m p q fs).length) : W2 m p q fs true 1 = ([], 6) := by
  unfold W2
  rw [if_pos ⟨rfl, rfl⟩, if_pos h]
theorem W2_b (m p q : List UInt8) (fs : List Fd) (h : ¬ (32 < fs.length ∨ 2048 < (writeL m p q fs).length)) : W2 m p q fs true 1 = (bytesOf (B (writeL m p q fs)), 0) := by
  unfold W2
  rw [if_pos ⟨rfl, rfl⟩, if_neg h]
def preW (m p q : List UInt8) : List UInt8 := m ++ 32 :: (tgt p q ++ 32 :: (verL ++ [13, 10]))
def flatW (fs : List Fd) : List UInt8 := fs.flatMap (fun f => f.1 ++ 58 :: 32 :: (f.2 ++ [13, 10]))
theorem writeL_pre (m p q : List UInt8) (fs : List Fd) : writeL m p q fs = preW m p q ++ flatW fs ++ [13, 10] := writeL_flat m p q fs
theorem flatW_take (fs : List Fd) (i : Nat) (hi : i < fs.length) : flatW (fs.take (i + 1)) = flatW (fs.take i) ++ (fs[i].1 ++ 58 :: 32 :: (fs[i].2 ++ [13, 10])) := by
  rw [List.take_succ_eq_append_getElem hi]
  unfold flatW
  rw [List.flatMap_append, List.flatMap_cons, List.flatMap_nil, List.append_nil]
theorem flatW_le (fs : List Fd) (i : Nat) : (flatW (fs.take i)).length ≤ szF fs := by
  have h : fs = fs.take i ++ fs.drop i := (List.take_append_drop i fs).symm
  have h2 : (flatW fs).length = szF fs := flat_sz fs
  rw [← h2]
  conv => rhs; rw [h]
  unfold flatW
  rw [List.flatMap_append, List.length_append]
  omega
theorem write_l1 (m p q hh : List UInt8) (fs : List Fd) (hpre : (preW m p q).length ≤ 100000000) (hsz : szF fs ≤ 100000000) (hfs : fs.length ≤ 100000000) : ∀ (d i : Nat), i + d = fs.length →
    Ev (fun k => head_Write.l1 k (bytesOf (B (preW m p q ++ flatW (fs.take i)))) (fs.map sF) (fs.length : Int) (i : Int) (B m) (B p) (B q) (B hh) (fs.map sF)) (W2 m p q fs true 1) := by
  intro d
  induction d with
  | zero =>
    intro i hi
    have hle := flatW_le fs i
    have e2 : bytesOf (⟨#[13, 10]⟩ : ByteArray) = bytesOf (B [13, 10]) := rfl
    refine Ev.step (fun k => by simp only [head_Write.l1]; rfl) (Ev.neg (by omega) (Ev.pos (by rw [N8_len, List.length_append]; omega) (Ev.put ?_)))
    rw [e2, N8_app, N8_len, List.length_map]
    rw [List.take_of_length_le (by omega), ← writeL_pre]
    by_cases h1 : 32 < fs.length
    · rw [W2_a m p q fs (.inl h1)]
      exact Ev.pos (by omega) (Ev.ret rfl)
    · by_cases h2 : 2048 < (writeL m p q fs).length
      · rw [W2_a m p q fs (.inr h2)]
        exact Ev.neg (by omega) (Ev.pos (by omega) (Ev.ret rfl))
      · rw [W2_b m p q fs (by omega)]
        exact Ev.neg (by omega) (Ev.neg (by omega) (Ev.ret rfl))
  | succ d ih =>
    intro i hi
    have hlt : i < fs.length := by omega
    have hw := wrap_succ i (by omega)
    have hle := flatW_le fs i
    have hm := sz_mem (List.getElem_mem hlt)
    have hi' := ih (i + 1) (by omega)
    have e1 : ((((sF fs[i]).f0 ++ (⟨#[58, 32]⟩ : ByteArray)) ++ (sF fs[i]).f1) ++ (⟨#[13, 10]⟩ : ByteArray)) = B (fs[i].1 ++ 58 :: 32 :: (fs[i].2 ++ [13, 10])) := by
      show ((B fs[i].1 ++ B [58, 32]) ++ B fs[i].2) ++ B [13, 10] = _
      rw [B_append, B_append, B_append]
      simp
    have s1 : ((sF fs[i]).f0).size = fs[i].1.length := B_size _
    have s2 : ((sF fs[i]).f0 ++ (⟨#[58, 32]⟩ : ByteArray)).size = fs[i].1.length + 2 := by rw [ByteArray.size_append, s1]; rfl
    have s3 : ((sF fs[i]).f1).size = fs[i].2.length := B_size _
    have s4 : (((sF fs[i]).f0 ++ (⟨#[58, 32]⟩ : ByteArray)) ++ (sF fs[i]).f1).size = fs[i].1.length + 2 + fs[i].2.length := by rw [ByteArray.size_append, s2, s3]
    have s5 : (B (fs[i].1 ++ 58 :: 32 :: (fs[i].2 ++ [13, 10]))).size = fs[i].1.length + fs[i].2.length + 4 := by rw [B_size]; simp; omega
    refine Ev.step (fun k => by simp only [head_Write.l1]; rfl) ?_
    rw [rd_F fs i hlt]
    rw [e1, s1, s2, s3, s4, s5]
    refine Ev.pos (by omega) (Ev.pos (by omega) (Ev.pos (by rw [List.length_map]; omega) (Ev.pos (by omega) (Ev.pos (by omega) (Ev.pos (by omega) (Ev.pos (by rw [N8_len, List.length_append]; omega) ?_))))))
    rw [N8_app, hw, List.append_assoc, ← flatW_take fs i hlt]
    exact hi'
theorem write_j3 (m p q hh : List UInt8) (fs : List Fd) (hpre : (preW m p q).length ≤ 100000000) (hsz : szF fs ≤ 100000000) (hfs : fs.length ≤ 100000000) :
    Ev (fun k => head_Write.j3 k (bytesOf (B (m ++ 32 :: tgt p q))) (B m) (B p) (B q) (B hh) (fs.map sF)) (W2 m p q fs true 1) := by
  have h := write_l1 m p q hh fs hpre hsz hfs fs.length 0 (by omega)
  have e1 : bytesOf (⟨#[32, 72, 84, 84, 80, 47, 49, 46, 49, 13, 10]⟩ : ByteArray) = bytesOf (B (32 :: (verL ++ [13, 10]))) := rfl
  have hl : (m ++ 32 :: tgt p q).length ≤ (preW m p q).length := by simp [preW]
  refine Ev.step (fun k => by simp only [head_Write.j3]; rfl) (Ev.pos (by rw [N8_len]; omega) ?_)
  rw [e1, N8_app, List.length_map]
  have e2 : m ++ 32 :: tgt p q ++ 32 :: (verL ++ [13, 10]) = preW m p q ++ flatW (fs.take 0) := by simp [preW, flatW]
  rw [e2]
  exact h
theorem write_j2 (m p q hh : List UInt8) (fs : List Fd) (hpre : (preW m p q).length ≤ 100000000) (hsz : szF fs ≤ 100000000) (hfs : fs.length ≤ 100000000) :
    Ev (fun k => head_Write.j2 k false (B m) (B p) (B q) (B hh) (fs.map sF)) (W2 m p q fs true 1) := by
  have h := write_j3 m p q hh fs hpre hsz hfs
  have hl : m.length + (tgt p q).length + 12 = (preW m p q).length := by simp [preW, verL]; omega
  have htl := tgt_length p q
  have e1 : B m ++ (⟨#[32]⟩ : ByteArray) = B (m ++ [32]) := B_append m [32]
  have e2 : B (m ++ [32]) ++ B p = B (m ++ 32 :: p) := by rw [B_append]; simp
  refine Ev.step (fun k => by simp only [head_Write.j2]; rfl) (Ev.neg (by simp) ?_)
  rw [e1, e2, B_size, B_size, B_size, B_size]
  refine Ev.pos (by omega) (Ev.pos (by simp; omega) (Ev.pos (by simp; omega) (Ev.put ?_)))
  by_cases hq : q = []
  · refine Ev.pos (by rw [B_toList]; exact hq) ?_
    rw [show m ++ 32 :: p = m ++ 32 :: tgt p q by simp [tgt, hq]]
    exact h
  · have ht : tgt p q = p ++ 63 :: q := by simp [tgt, hq]
    have hq1 : q.length + 1 ≤ (tgt p q).length := by rw [ht]; simp
    have e3 : (⟨#[63]⟩ : ByteArray) ++ B q = B (63 :: q) := B_append [63] q
    refine Ev.neg (by rw [B_toList]; exact hq) ?_
    rw [e3, B_size, B_size, N8_len, N8_app]
    refine Ev.pos (by omega) (Ev.pos (by simp; omega) ?_)
    rw [show m ++ 32 :: p ++ 63 :: q = m ++ 32 :: tgt p q by rw [ht]; simp]
    exact h
theorem fOk_eq {hh : List UInt8} {f : Fd} (htk : tokOk f.1 = true) (hlo : f.1.map lowB = f.1) (hvl : valOk f.2 = true) (h : f.1 = hostL) : fOk hh f = decide (hostS f.2 = (hh, true)) := by
  unfold fOk
  rw [htk, hvl, decide_eq_true hlo, decide_eq_false (by simpa using h)]
  simp
theorem write_l0 (m p q hh : List UInt8) (fs : List Fd) (hpre : (preW m p q).length ≤ 100000000) (hsz : szF fs ≤ 100000000) (hfs : fs.length ≤ 100000000) : ∀ (d i : Nat), i + d = fs.length → ∀ (ok : Bool) (n : Nat), n ≤ i →
    Ev (fun k => head_Write.l0 k ok (n : Int) (fs.map sF) (fs.length : Int) (i : Int) (B m) (B p) (B q) (B hh) (fs.map sF)) (W2 m p q fs (ok && (fs.drop i).all (fOk hh)) (n + nh (fs.drop i))) := by
  intro d
  induction d with
  | zero =>
    intro i hi ok n hn
    have h := write_j2 m p q hh fs hpre hsz hfs
    have hT : ∀ o : Bool, (o = false ∨ n ≠ 1) → Ev (fun k => head_Write.j2 k true (B m) (B p) (B q) (B hh) (fs.map sF)) (W2 m p q fs o n) := by
      intro o ho
      unfold W2
      rw [if_neg (by rintro ⟨rfl, rfl⟩; simp at ho)]
      exact Ev.step (fun k => by simp only [head_Write.j2]; rfl) (Ev.pos (by trivial) (Ev.ret rfl))
    refine Ev.step (fun k => by simp only [head_Write.l0]; rfl) (Ev.neg (by omega) ?_)
    rw [List.drop_eq_nil_of_le (by omega), List.all_nil, Bool.and_true, show nh [] = 0 from rfl, Nat.add_zero]
    cases ok with
    | false => exact Ev.neg (by simp) (hT false (.inl rfl))
    | true =>
      refine Ev.pos rfl ?_
      by_cases h1 : n = 1
      · subst h1
        exact h
      · rw [show ((n : Int) != 1) = true by simp; omega]
        exact hT true (.inr h1)
  | succ d ih =>
    intro i hi ok n hn
    have hlt : i < fs.length := by omega
    have hw := wrap_succ i (by omega)
    have hw2 := wrap_succ n (by omega)
    have hm := sz_mem (List.getElem_mem hlt)
    have hd : fs.drop i = fs[i] :: fs.drop (i + 1) := List.drop_eq_getElem_cons hlt
    generalize hf : fs[i] = f at hm hd
    have hrd : rd_T38 (fs.map sF) (i : Int) = sF f := by rw [rd_F fs i hlt, hf]
    have tk := token_is f.1 (by omega)
    have vl := value_is f.2 (by omega)
    have lo : head_lower.f (B f.1) = some (B (f.1.map lowB)) := Lower_is f.1 (by omega)
    have hx := host_is f.2 (by omega)
    have hN : nh (fs.drop i) = (if f.1 = hostL then 1 else 0) + nh (fs.drop (i + 1)) := by
      rw [hd]
      unfold nh
      rw [List.countP_cons]
      by_cases h : f.1 = hostL <;> simp [h] <;> omega
    have hI : ∀ (o : Bool), Ev (fun k => head_Write.l0 k o (wrap64 ((n : Int) + 1)) (fs.map sF) (fs.length : Int) (wrap64 ((i : Int) + 1)) (B m) (B p) (B q) (B hh) (fs.map sF)) (W2 m p q fs (o && (fs.drop (i + 1)).all (fOk hh)) (n + 1 + nh (fs.drop (i + 1)))) := by
      intro o
      rw [hw, hw2]
      exact ih (i + 1) (by omega) o (n + 1) (by omega)
    have hI0 : ∀ (o : Bool), Ev (fun k => head_Write.l0 k o (n : Int) (fs.map sF) (fs.length : Int) (wrap64 ((i : Int) + 1)) (B m) (B p) (B q) (B hh) (fs.map sF)) (W2 m p q fs (o && (fs.drop (i + 1)).all (fOk hh)) (n + nh (fs.drop (i + 1)))) := by
      intro o
      rw [hw]
      exact ih (i + 1) (by omega) o n (by omega)
    -- whatever is no field ends at false
    have hBad : (ok && fOk hh f) = false → Ev (fun k => if (sF f).f0.toList = ([104, 111, 115, 116] : List UInt8) then ((head_Host.f k (sF f).f1).bind fun _ => head_Write.l0 k false (wrap64 ((n : Int) + 1)) (fs.map sF) (fs.length : Int) (wrap64 ((i : Int) + 1)) (B m) (B p) (B q) (B hh) (fs.map sF)) else head_Write.l0 k false (n : Int) (fs.map sF) (fs.length : Int) (wrap64 ((i : Int) + 1)) (B m) (B p) (B q) (B hh) (fs.map sF)) (W2 m p q fs (ok && (fs.drop i).all (fOk hh)) (n + nh (fs.drop i))) := by
      intro hb
      have hB2 : (ok && (fs.drop i).all (fOk hh)) = (false && (fs.drop (i + 1)).all (fOk hh)) := by
        rw [hd, List.all_cons, ← Bool.and_assoc, hb]
      rw [hB2, hN]
      by_cases h : f.1 = hostL
      · rw [if_pos h, ← Nat.add_assoc]
        exact Ev.pos (by show (B f.1).toList = _; rw [B_toList]; exact h) (Ev.bind hx (hI false))
      · rw [if_neg h, Nat.zero_add]
        exact Ev.neg (by show ¬ (B f.1).toList = _; rw [B_toList]; exact h) (hI0 false)
    refine Ev.step (fun k => by simp only [head_Write.l0]; rfl) ?_
    rw [hrd]
    refine Ev.pos (by omega) (Ev.pos (by omega) (Ev.pos (by rw [List.length_map]; omega) ?_))
    cases ok with
    | false => exact Ev.neg (by simp) (hBad (by rw [Bool.false_and]))
    | true =>
      refine Ev.pos rfl (Ev.bind tk ?_)
      cases htk : tokOk f.1 with
      | false => exact Ev.neg (by simp) (hBad (by simp [fOk, htk]))
      | true =>
        refine Ev.pos rfl (Ev.call lo ?_)
        by_cases hlo : f.1.map lowB = f.1
        · refine Ev.pos (by show (B (f.1.map lowB)).toList = (B f.1).toList; rw [hlo]) (Ev.bind vl ?_)
          have hall : (true && (fs.drop i).all (fOk hh)) = ((true && fOk hh f) && (fs.drop (i + 1)).all (fOk hh)) := by rw [hd, List.all_cons, Bool.and_assoc]
          rw [hall, hN]
          by_cases h : f.1 = hostL
          · rw [if_pos h, ← Nat.add_assoc]
            refine Ev.pos (by show (B f.1).toList = _; rw [B_toList]; exact h) (Ev.bind hx ?_)
            cases hvl : valOk f.2 with
            | false =>
              rw [show (true && fOk hh f) = false by simp [fOk, hvl]]
              exact Ev.neg (by simp) (hI false)
            | true =>
              refine Ev.pos rfl ?_
              cases hb : (hostS f.2).2 with
              | false =>
                rw [show (true && fOk hh f) = false by simp [fOk, h]; intro _ _ _ hq; rw [hq] at hb; cases hb]
                exact Ev.neg (by show ¬ (hostR f.2).2 = true; unfold hostR; simp [hb]) (hI false)
              | true =>
                refine Ev.pos (by show (hostR f.2).2 = true; exact hb) ?_
                have he : ((hostR f.2).1.toList == (B hh).toList) = (true && fOk hh f) := by
                  show ((B (hostS f.2).1).toList == (B hh).toList) = _
                  rw [B_toList, B_toList, Bool.true_and, fOk_eq htk hlo hvl h, Bool.eq_iff_iff, beq_iff_eq, decide_eq_true_eq]
                  constructor
                  · intro hq
                    rw [← hq, ← hb]
                  · intro hq
                    rw [hq]
                rw [he]
                exact hI _
          · rw [if_neg h, Nat.zero_add]
            refine Ev.neg (by show ¬ (B f.1).toList = _; rw [B_toList]; exact h) ?_
            have he : valOk f.2 = (true && fOk hh f) := by simp [fOk, htk, hlo, h]
            rw [← he]
            exact hI0 _
        · exact Ev.neg (by show ¬ (B (f.1.map lowB)).toList = (B f.1).toList; rw [B_toList, B_toList]; exact hlo) (hBad (by simp [fOk, hlo]))
/-- THE LAW: what Write tells -/
theorem write_is (m p q hh : List UInt8) (fs : List Fd) (hpre : (preW m p q).length ≤ 100000000) (hsz : szF fs ≤ 100000000) (hfs : fs.length ≤ 100000000) :
    Ev (fun k => head_Write.f k (B m) (B p) (B q) (B hh) (fs.map sF)) (W2 m p q fs (wOk m p q hh fs) (nh fs)) := by
  have hl : m.length + (tgt p q).length + 12 = (preW m p q).length := by simp [preW, verL]; omega
  have htl := tgt_length p q
  have hJ : ∀ o : Bool, Ev (fun k => head_Write.j0 k o (B m) (B p) (B q) (B hh) (fs.map sF)) (W2 m p q fs (o && fs.all (fOk hh)) (nh fs)) := by
    intro o
    have h := write_l0 m p q hh fs hpre hsz hfs fs.length 0 (by omega) o 0 (by omega)
    rw [List.drop_zero, Nat.zero_add] at h
    refine Ev.step (fun k => by simp only [head_Write.j0]; rfl) ?_
    rw [List.length_map]
    exact h
  unfold head_Write.f wOk
  refine Ev.bind (token_is m (by omega)) ?_
  cases tokOk m with
  | false => exact Ev.neg (by simp) (hJ false)
  | true =>
    refine Ev.pos rfl (Ev.bind (path_is p (by omega)) ?_)
    cases pathL p with
    | false => exact Ev.neg (by simp) (hJ false)
    | true => exact Ev.pos rfl (Ev.bind (such_is true q (by omega)) (hJ _))
/-! a head that came in, as lists -/
def unF (x : S38) : Fd := (x.f0.data.toList, x.f1.data.toList)
theorem unF_s (l : List S38) : (l.map unF).map sF = l := by
  rw [List.map_map]
  conv => rhs; rw [← List.map_id l]
  apply List.map_congr_left
  intro x _
  show (⟨B x.f0.data.toList, B x.f1.data.toList⟩ : S38) = x
  rw [B_of, B_of]
theorem szF_un (l : List S38) : szF (l.map unF) + (l.map unF).length ≤ 4 * (l.map (fun y => mu38 y)).sum := by
  induction l with
  | nil => simp [szF]
  | cons x l ih =>
    simp only [List.map_cons, List.sum_cons, szF, List.length_cons] at ih ⊢
    have h0 : x.f0.data.toList.length = x.f0.size := by simp
    have h1 : x.f1.data.toList.length = x.f1.size := by simp
    simp only [unF, mu38] at ih ⊢
    omega
/-- what comes in, within the bounds -/
theorem head_in (y : S25) (h : mu25 y ≤ 1048576) : ∃ m p q hh fs, y = ⟨B m, B p, B q, B hh, fs.map sF⟩ ∧ m.length + p.length + q.length + hh.length ≤ 1048576 ∧ (preW m p q).length ≤ 10000000 ∧ szF fs ≤ 10000000 ∧ fs.length ≤ 10000000 := by
  obtain ⟨a, b, c, d, l⟩ := y
  have hs := szF_un l
  simp only [mu25] at h
  have e0 : a.data.toList.length = a.size := by simp
  have e1 : b.data.toList.length = b.size := by simp
  have e2 : c.data.toList.length = c.size := by simp
  have e3 : d.data.toList.length = d.size := by simp
  refine ⟨a.data.toList, b.data.toList, c.data.toList, d.data.toList, l.map unF, by rw [B_of, B_of, B_of, B_of, unF_s], by omega, ?_, by omega, by omega⟩
  unfold preW tgt
  split <;> simp [verL] <;> omega
end Go.Proofs.YtabkdmfnafeaeaaDoor.HP
namespace Go.Proofs.YtabkdmfnafeaeaaDoor.HP
open Go.RowKit Go.Proofs.YtabkdmfnafeaeaaDoor.Q Go.Proofs.YtabkdmfnafeaeaaDoorW.PrintWords Go.Proofs.YtabkdmfnafeaeaaDoorW.PrintLast Go.Proofs.YtabkdmfnafeaeaaDoorW.PrintMore
theorem live_is : Ev (fun k => tollgatelaw09_live.f k) true := Ev.of (fun k => tollgatelaw09_live.mono k) (k := 60) (by decide +kernel)
end Go.Proofs.YtabkdmfnafeaeaaDoor.HP
namespace Go.Proofs.YtabkdmfnafeaeaaDoor.HP
open Go.RowKit Go.Proofs.YtabkdmfnafeaeaaDoor.Q Go.Proofs.YtabkdmfnafeaeaaDoorW.PrintWords Go.Proofs.YtabkdmfnafeaeaaDoorW.PrintLast Go.Proofs.YtabkdmfnafeaeaaDoorW.PrintMore
theorem cut_le (s sep : List UInt8) : (Lib.cut s sep).1.length ≤ s.length ∧ (Lib.cut s sep).2.1.length ≤ s.length := by
  unfold Lib.cut
  split
  · simp
    omega
  · simp
end Go.Proofs.YtabkdmfnafeaeaaDoor.HP
namespace Go.Proofs.YtabkdmfnafeaeaaDoor.HP
open Go.RowKit Go.Proofs.YtabkdmfnafeaeaaDoor.Q Go.Proofs.YtabkdmfnafeaeaaDoorW.PrintWords Go.Proofs.YtabkdmfnafeaeaaDoorW.PrintLast Go.Proofs.YtabkdmfnafeaeaaDoorW.PrintMore
theorem u8_all {P : UInt8 → Prop} (h : ∀ n : Fin 256, P (UInt8.ofNat n.val)) (b : UInt8) : P b := by
  have := h ⟨b.toNat, b.toNat_lt⟩
  simpa using this
theorem rin_is (c : UInt8) (s : List UInt8) (hs : s.length ≤ 4294967296) : ∀ (d i : Nat), i + d = s.length → Ev (fun k => tollgateref09_in.l0 k (c.toNat : Int) (B s) (i : Int)) ((s.drop i).contains c) := by
  intro d
  induction d with
  | zero =>
    intro i hi
    rw [List.drop_eq_nil_of_le (by omega)]
    exact Ev.step (fun k => by simp only [tollgateref09_in.l0]; rfl) (Ev.neg (by rw [B_size]; omega) (Ev.ret rfl))
  | succ d ih =>
    intro i hi
    have hlt : i < s.length := by omega
    have hw := wrap_succ i (by omega)
    rw [List.drop_eq_getElem_cons hlt, List.contains_cons]
    refine Ev.step (fun k => by simp only [tollgateref09_in.l0]; rfl) (Ev.pos (by rw [B_size]; omega) (Ev.pos (by omega) ?_))
    rw [B_bt s i hlt, hw]
    by_cases h : c = s[i]
    · rw [show (c == s[i]) = true by simpa using h, Bool.true_or]
      exact Ev.pos (by rw [h]) (Ev.ret rfl)
    · rw [show (c == s[i]) = false by simpa using h, Bool.false_or]
      exact Ev.neg (fun he => h (UInt8.toNat_inj.1 (by omega))) (ih (i + 1) (by omega))
theorem in_is (c : UInt8) (s : List UInt8) (hs : s.length ≤ 4294967296) : Ev (fun k => tollgateref09_in.f k (c.toNat : Int) (B s)) (s.contains c) := rin_is c s hs s.length 0 (by omega)
theorem rall_is (l s : List UInt8) (hl : l.length ≤ 4294967296) (hs : s.length ≤ 4294967296) : ∀ (d i : Nat), i + d = l.length → Ev (fun k => tollgateref09_all.l0 k (B l) (B s) (i : Int)) ((l.drop i).all s.contains) := by
  intro d
  induction d with
  | zero =>
    intro i hi
    rw [List.drop_eq_nil_of_le (by omega)]
    exact Ev.step (fun k => by simp only [tollgateref09_all.l0]; rfl) (Ev.neg (by rw [B_size]; omega) (Ev.ret rfl))
  | succ d ih =>
    intro i hi
    have hlt : i < l.length := by omega
    have hw := wrap_succ i (by omega)
    rw [List.drop_eq_getElem_cons hlt, List.all_cons]
    refine Ev.step (fun k => by simp only [tollgateref09_all.l0]; rfl) (Ev.pos (by rw [B_size]; omega) (Ev.pos (by omega) ?_))
    rw [B_bt l i hlt, hw]
    refine Ev.bind (in_is l[i] s hs) ?_
    cases s.contains l[i] with
    | true =>
      rw [Bool.true_and]
      exact Ev.pos rfl (ih (i + 1) (by omega))
    | false =>
      rw [Bool.false_and]
      exact Ev.neg (by simp) (Ev.ret rfl)
theorem all_is (l s : List UInt8) (hl : l.length ≤ 4294967296) (hs : s.length ≤ 4294967296) : Ev (fun k => tollgateref09_all.f k (B l) (B s)) (l.all s.contains) := rall_is l s hl hs l.length 0 (by omega)
def tokS : List UInt8 := [97, 98, 99, 100, 101, 102, 103, 104, 105, 106, 107, 108, 109, 110, 111, 112, 113, 114, 115, 116, 117, 118, 119, 120, 121, 122, 65, 66, 67, 68, 69, 70, 71, 72, 73, 74, 75, 76, 77, 78, 79, 80, 81, 82, 83, 84, 85, 86, 87, 88, 89, 90, 48, 49, 50, 51, 52, 53, 54, 55, 56, 57, 33, 35, 36, 37, 38, 39, 42, 43, 45, 46, 94, 95, 96, 124, 126]
theorem tokS_is : ∀ b : UInt8, tokS.contains b = tokB b := u8_all (by decide +kernel)
theorem Token_is (l : List UInt8) (hl : l.length ≤ 4294967296) : Ev (fun k => tollgateref09_Token.f k (B l)) (tokOk l) := by
  unfold tollgateref09_Token.f
  by_cases h : l = []
  · subst h
    exact Ev.pos (B_toList []) (Ev.ret rfl)
  · refine Ev.neg (by rw [B_toList]; exact h) (Ev.bind (all_is l tokS hl (by decide)) (Ev.ret ?_))
    rw [show tokS.contains = tokB from funext tokS_is]
    simp [tokOk, h]
/-! such -/
def hexS : List UInt8 := [48, 49, 50, 51, 52, 53, 54, 55, 56, 57, 97, 98, 99, 100, 101, 102, 65, 66, 67, 68, 69, 70]
def pchS : List UInt8 := [97, 98, 99, 100, 101, 102, 103, 104, 105, 106, 107, 108, 109, 110, 111, 112, 113, 114, 115, 116, 117, 118, 119, 120, 121, 122, 65, 66, 67, 68, 69, 70, 71, 72, 73, 74, 75, 76, 77, 78, 79, 80, 81, 82, 83, 84, 85, 86, 87, 88, 89, 90, 48, 49, 50, 51, 52, 53, 54, 55, 56, 57, 47, 45, 46, 95, 126, 33, 36, 38, 39, 40, 41, 42, 43, 44, 59, 61, 58, 64]
def moreS (q : Bool) : List UInt8 := if q = true then [63] else []
theorem hexS_is : ∀ b : UInt8, hexS.contains b = hexB b := u8_all (by decide +kernel)
theorem pchS_is (q : Bool) : ∀ b : UInt8, b.toNat ≠ 37 → (pchS ++ moreS q).contains b = (if b.toNat = 63 ∧ q = true then true else pchB b) := by
  cases q
  · exact u8_all (P := fun b => b.toNat ≠ 37 → (pchS ++ moreS false).contains b = (if b.toNat = 63 ∧ false = true then true else pchB b)) (by decide +kernel)
  · exact u8_all (P := fun b => b.toNat ≠ 37 → (pchS ++ moreS true).contains b = (if b.toNat = 63 ∧ true = true then true else pchB b)) (by decide +kernel)
theorem hex_at (q : Bool) (r : List UInt8) (a : UInt8) (h : hexB a = true) : atB q (a :: r) = true := by
  have h1 : ∀ b : UInt8, hexB b = true → b.toNat ≠ 37 ∧ b.toNat ≠ 63 ∧ pchB b = true := u8_all (P := fun b => hexB b = true → b.toNat ≠ 37 ∧ b.toNat ≠ 63 ∧ pchB b = true) (by decide +kernel)
  obtain ⟨a1, a2, a3⟩ := h1 a h
  rw [atB_cons, if_neg a1, if_neg (fun hh => a2 hh.1), a3]
theorem rsuch_is (q : Bool) (l : List UInt8) (hl : l.length ≤ 4294967296) : ∀ (n d i : Nat), d ≤ n → i + d = l.length → Ev (fun k => tollgateref09_such.l0 k (B l) (B (moreS q)) (i : Int)) (suchL q (l.drop i)) := by
  intro n
  induction n with
  | zero =>
    intro d i hd hi
    rw [List.drop_eq_nil_of_le (by omega)]
    exact Ev.step (fun k => by simp only [tollgateref09_such.l0]; rfl) (Ev.neg (by rw [B_size]; omega) (Ev.ret rfl))
  | succ n ih =>
    intro d i hd hi
    by_cases h0 : d = 0
    · rw [List.drop_eq_nil_of_le (by omega)]
      exact Ev.step (fun k => by simp only [tollgateref09_such.l0]; rfl) (Ev.neg (by rw [B_size]; omega) (Ev.ret rfl))
    have hlt : i < l.length := by omega
    have hw := wrap_succ i (by omega)
    have hw2 : wrap64 ((i : Int) + 2) = ((i + 2 : Nat) : Int) := by unfold wrap64; omega
    have hw3 : wrap64 (((i + 2 : Nat) : Int) + 1) = ((i + 3 : Nat) : Int) := by unfold wrap64; omega
    have hdr : l.drop i = l[i] :: l.drop (i + 1) := List.drop_eq_getElem_cons hlt
    have hms : (moreS q).length ≤ 1 := by unfold moreS; split <;> simp
    have hF : Ev (fun k => tollgateref09_such.j1 k (B l) (B (moreS q)) (i : Int) true) false := Ev.step (fun k => by simp only [tollgateref09_such.j1]; rfl) (Ev.pos (by trivial) (Ev.ret rfl))
    rw [hdr]
    show Ev _ (atB q (l[i] :: l.drop (i + 1)) && suchL q (l.drop (i + 1)))
    rw [atB_cons]
    refine Ev.step (fun k => by simp only [tollgateref09_such.l0]; rfl) (Ev.pos (by rw [B_size]; omega) (Ev.pos (by omega) ?_))
    rw [B_bt l i hlt, hw, hw2, B_size]
    by_cases h37 : l[i].toNat = 37
    · rw [if_pos h37]
      refine Ev.pos (by omega) ?_
      by_cases h2 : l.length ≤ i + 2
      · rw [two_short _ (by rw [List.length_drop]; omega), Bool.false_and]
        exact Ev.pos (by omega) hF
      · have h1 : i + 1 < l.length := by omega
        have h3 : i + 2 < l.length := by omega
        have hd1 : l.drop (i + 1) = l[i + 1] :: l[i + 2] :: l.drop (i + 3) := by
          rw [List.drop_eq_getElem_cons h1, List.drop_eq_getElem_cons h3]
        rw [hd1]
        show Ev _ ((hexB l[i + 1] && hexB l[i + 2]) && suchL q (l[i + 1] :: l[i + 2] :: l.drop (i + 3)))
        refine Ev.neg (by omega) (Ev.pos (by omega) (Ev.pos (by omega) ?_))
        rw [B_bt l (i + 1) h1]
        refine Ev.bind (in_is l[i + 1] hexS (by decide)) ?_
        rw [hexS_is]
        cases hA : hexB l[i + 1] with
        | false =>
          rw [Bool.false_and, Bool.false_and]
          exact Ev.neg (by simp) hF
        | true =>
          refine Ev.pos rfl (Ev.pos (by omega) (Ev.pos (by omega) ?_))
          rw [B_bt l (i + 2) h3]
          refine Ev.bind (in_is l[i + 2] hexS (by decide)) ?_
          rw [hexS_is]
          cases hB : hexB l[i + 2] with
          | false =>
            rw [Bool.and_false, Bool.false_and]
            exact hF
          | true =>
            show Ev _ (atB q (l[i + 1] :: l[i + 2] :: l.drop (i + 3)) && (atB q (l[i + 2] :: l.drop (i + 3)) && suchL q (l.drop (i + 3))))
            rw [hex_at q _ _ hA, hex_at q _ _ hB, Bool.true_and, Bool.true_and]
            refine Ev.step (fun k => by simp only [tollgateref09_such.j1]; rfl) (Ev.neg (by simp) ?_)
            rw [hw2, hw3]
            exact ih (d - 3) (i + 3) (by omega) (by omega)
    · rw [if_neg h37, ← pchS_is q l[i] h37]
      refine Ev.neg (by omega) (Ev.pos (by rw [B_size]; omega) ?_)
      have e1 : ((⟨#[97, 98, 99, 100, 101, 102, 103, 104, 105, 106, 107, 108, 109, 110, 111, 112, 113, 114, 115, 116, 117, 118, 119, 120, 121, 122, 65, 66, 67, 68, 69, 70, 71, 72, 73, 74, 75, 76, 77, 78, 79, 80, 81, 82, 83, 84, 85, 86, 87, 88, 89, 90, 48, 49, 50, 51, 52, 53, 54, 55, 56, 57, 47, 45, 46, 95, 126, 33, 36, 38, 39, 40, 41, 42, 43, 44, 59, 61, 58, 64]⟩ : ByteArray) ++ B (moreS q)) = B (pchS ++ moreS q) := B_append pchS (moreS q)
      rw [e1]
      have hlen : (pchS ++ moreS q).length ≤ 4294967296 := by rw [List.length_append]; have : pchS.length = 80 := rfl; omega
      refine Ev.bind (in_is l[i] (pchS ++ moreS q) hlen) ?_
      cases (pchS ++ moreS q).contains l[i] with
      | true =>
        rw [Bool.true_and]
        exact Ev.pos rfl (ih (d - 1) (i + 1) (by omega) (by omega))
      | false =>
        rw [Bool.false_and]
        exact Ev.neg (by simp) (Ev.ret rfl)
theorem refsuch_is (q : Bool) (l : List UInt8) (hl : l.length ≤ 4294967296) : Ev (fun k => tollgateref09_such.f k (B l) (B (moreS q))) (suchL q l) := rsuch_is q l hl l.length l.length 0 (Nat.le_refl _) (by omega)
theorem Path_is (l : List UInt8) (hl : l.length ≤ 4294967296) : Ev (fun k => tollgateref09_Path.f k (B l)) (pathL l) := by
  unfold tollgateref09_Path.f pathL
  cases l with
  | nil => exact Ev.pos (B_toList []) (Ev.ret rfl)
  | cons x r =>
    have h0 : 0 < (x :: r).length := by simp
    have hb : bt (B (x :: r)) 0 = (x.toNat : Int) := by
      have := B_bt (x :: r) 0 h0
      simpa using this
    refine Ev.neg (by rw [B_toList]; simp) (Ev.pos (by rw [B_size]; simp) ?_)
    rw [hb]
    by_cases hx : x = 47
    · subst hx
      rw [if_pos (by simp [Lib.hasPrefix, List.isPrefixOf])]
      exact Ev.pos rfl (Ev.bind (refsuch_is false _ hl) (Ev.ret rfl))
    · rw [if_neg (by simpa [Lib.hasPrefix, List.isPrefixOf] using fun h : (47 : UInt8) = x => hx h.symm)]
      exact Ev.neg (fun h => hx (UInt8.toNat_inj.1 (by have : (47 : UInt8).toNat = 47 := rfl; omega))) (Ev.ret rfl)
theorem Query_is (l : List UInt8) (hl : l.length ≤ 4294967296) : Ev (fun k => tollgateref09_Query.f k (B l)) (suchL true l) := Ev.bind (refsuch_is true l hl) (Ev.ret rfl)
/-! values -/
def restOk (l : List UInt8) (i : Nat) : Bool := (l.drop i).all valB && (if i = 0 then endsOk l else if i < l.length then !blankB (l.getLastD 0) else true)
theorem endsOk_cons {l : List UInt8} (h : 0 < l.length) : endsOk l = (!blankB l[0] && !blankB (l.getLastD 0)) := by
  cases l with
  | nil => simp at h
  | cons x r => rfl
theorem last_get {l : List UInt8} (h : 0 < l.length) : l.getLastD 0 = l[l.length - 1] := by
  rw [List.getLastD_eq_getLast?, List.getLast?_eq_getElem?, List.getElem?_eq_getElem (by omega)]
  rfl
theorem rvalue_is (l : List UInt8) (hl : l.length ≤ 4294967296) : ∀ (d i : Nat), i + d = l.length → Ev (fun k => tollgateref09_Value.l0 k (B l) (i : Int)) (restOk l i) := by
  intro d
  induction d with
  | zero =>
    intro i hi
    have : restOk l i = true := by
      unfold restOk
      rw [List.drop_eq_nil_of_le (by omega), List.all_nil, Bool.true_and]
      split
      · have : l = [] := List.eq_nil_of_length_eq_zero (by omega)
        subst this
        rfl
      · rw [if_neg (by omega)]
    rw [this]
    exact Ev.step (fun k => by simp only [tollgateref09_Value.l0]; rfl) (Ev.neg (by rw [B_size]; omega) (Ev.ret rfl))
  | succ d ih =>
    intro i hi
    have hlt : i < l.length := by omega
    have h0 : 0 < l.length := by omega
    have hw := wrap_succ i (by omega)
    have hwl : wrap64 ((l.length : Int) - 1) = ((l.length - 1 : Nat) : Int) := by unfold wrap64; omega
    have hdr : l.drop i = l[i] :: l.drop (i + 1) := List.drop_eq_getElem_cons hlt
    have hi' := ih (i + 1) (by omega)
    have hlast := last_get h0
    have hR : restOk l i = (valB l[i] && ((l.drop (i + 1)).all valB && (if i = 0 then endsOk l else !blankB (l.getLastD 0)))) := by
      unfold restOk
      rw [hdr, List.all_cons, Bool.and_assoc, if_pos hlt]
    have hR1 : restOk l (i + 1) = ((l.drop (i + 1)).all valB && (if i + 1 < l.length then !blankB (l.getLastD 0) else true)) := by
      unfold restOk
      rw [if_neg (by omega)]
    -- the byte, once the edge is told
    have hJ : ∀ e : Bool, e = decide (i = 0 ∨ i = l.length - 1) → Ev (fun k => tollgateref09_Value.j1 k (B l) (i : Int) e) (restOk l i) := by
      intro e he
      refine Ev.step (fun k => by simp only [tollgateref09_Value.j1]; rfl) (Ev.pos (by omega) (Ev.pos (by rw [B_size]; omega) ?_))
      rw [B_bt l i hlt]
      have hJ2 : Ev (fun k => tollgateref09_Value.j2 k (B l) (i : Int) e (l[i].toNat : Int) (blankB l[i])) (restOk l i) := by
        refine Ev.step (fun k => by simp only [tollgateref09_Value.j2]; rfl) ?_
        cases hb : blankB l[i] with
        | true =>
          have hv : valB l[i] = true := by
            unfold blankB at hb
            unfold valB
            rw [decide_eq_true_eq] at hb ⊢
            omega
          refine Ev.pos rfl ?_
          by_cases hE : i = 0 ∨ i = l.length - 1
          · rw [he, decide_eq_true hE, hR]
            refine Ev.pos rfl (Ev.ret ?_)
            by_cases hi0 : i = 0
            · subst hi0
              rw [if_pos rfl, endsOk_cons h0, hb]
              simp
            · have hie : i = l.length - 1 := by omega
              rw [if_neg hi0, hlast]
              have : l[l.length - 1] = l[i] := by congr 1; omega
              rw [this, hb]
              simp
          · rw [he, decide_eq_false hE]
            refine Ev.neg (by simp) ?_
            rw [hw]
            refine Ev.res hi' ?_
            rw [hR, hR1, hv, Bool.true_and, if_pos (show i + 1 < l.length by omega), if_neg (show ¬ i = 0 by omega)]
        | false =>
          refine Ev.neg (by simp) ?_
          have hblank : ¬ (l[i].toNat = 9 ∨ l[i].toNat = 32) := by
            unfold blankB at hb
            exact of_decide_eq_false hb
          by_cases h1 : l[i].toNat < 32
          · have hv : valB l[i] = false := by
              unfold valB
              rw [decide_eq_false_iff_not]
              omega
            rw [hR, hv, Bool.false_and]
            exact Ev.pos (by omega) (Ev.ret rfl)
          · refine Ev.neg (by omega) ?_
            by_cases h2 : l[i].toNat = 127
            · have hv : valB l[i] = false := by
                unfold valB
                rw [decide_eq_false_iff_not]
                omega
              rw [hR, hv, Bool.false_and]
              exact Ev.pos (by omega) (Ev.ret rfl)
            · have hv : valB l[i] = true := by
                unfold valB
                rw [decide_eq_true_eq]
                omega
              refine Ev.neg (by omega) ?_
              rw [hw]
              refine Ev.res hi' ?_
              rw [hR, hR1, hv, Bool.true_and]
              congr 1
              by_cases hi1 : i + 1 < l.length
              · rw [if_pos hi1]
                by_cases hi0 : i = 0
                · subst hi0
                  rw [if_pos rfl, endsOk_cons h0, hb]
                  simp
                · rw [if_neg hi0]
              · rw [if_neg hi1]
                have hlb : blankB (l.getLastD 0) = false := by
                  rw [hlast]
                  have : l[l.length - 1] = l[i] := by congr 1; omega
                  rw [this, hb]
                by_cases hi0 : i = 0
                · subst hi0
                  rw [if_pos rfl, endsOk_cons h0, hb, hlb]
                  rfl
                · rw [if_neg hi0, hlb]
                  rfl
      by_cases h9 : l[i].toNat = 9
      · have hb : blankB l[i] = true := by unfold blankB; exact decide_eq_true (.inl h9)
        rw [hb] at hJ2
        exact Ev.pos (by omega) hJ2
      · have hb : ((l[i].toNat : Int) == 32) = blankB l[i] := by
          unfold blankB
          rw [show ((l[i].toNat : Int) == 32) = decide ((l[i].toNat : Int) = 32) from rfl, decide_eq_decide]
          omega
        refine Ev.neg (by omega) ?_
        rw [hb]
        exact hJ2
    refine Ev.step (fun k => by simp only [tollgateref09_Value.l0]; rfl) (Ev.pos (by rw [B_size]; omega) ?_)
    by_cases hi0 : i = 0
    · exact Ev.pos (by omega) (hJ true (by rw [decide_eq_true (.inl hi0)]))
    · refine Ev.neg (by omega) ?_
      rw [B_size, hwl]
      refine hJ _ ?_
      rw [show ((i : Int) == ((l.length - 1 : Nat) : Int)) = decide ((i : Int) = ((l.length - 1 : Nat) : Int)) from rfl, decide_eq_decide]
      omega
theorem Value_is (l : List UInt8) (hl : l.length ≤ 4294967296) : Ev (fun k => tollgateref09_Value.f k (B l)) (valOk l) := by
  have h := rvalue_is l hl l.length 0 (by omega)
  unfold restOk at h
  rw [List.drop_zero, if_pos rfl] at h
  exact h
/-! lower, cut -/
theorem lowB_nat (b : UInt8) : ((lowB b).toNat : Int) = if 65 ≤ b.toNat ∧ b.toNat ≤ 90 then ((b.toNat : Int) + 32) % 256 else (b.toNat : Int) := by
  by_cases h : 65 ≤ b.toNat ∧ b.toNat ≤ 90
  · rw [if_pos h, lowB_up h]
    omega
  · rw [if_neg h]
    unfold lowB
    rw [if_neg h]
theorem rlower_is (l : List UInt8) (hl : l.length ≤ 4294967296) : ∀ (d i : Nat), i + d = l.length → Ev (fun k => tollgateref09_Lower.l0 k (B l) (bytesOf (B ((l.take i).map lowB))) (i : Int)) (B (l.map lowB)) := by
  intro d
  induction d with
  | zero =>
    intro i hi
    refine Ev.step (fun k => by simp only [tollgateref09_Lower.l0]; rfl) (Ev.neg (by rw [B_size]; omega) (Ev.ret ?_))
    rw [N8_B, strOf_N8, List.take_of_length_le (by omega)]
  | succ d ih =>
    intro i hi
    have hlt : i < l.length := by omega
    have hw := wrap_succ i (by omega)
    have hi' := ih (i + 1) (by omega)
    have hlen : (bytesOf (B ((l.take i).map lowB))).length < 140737488355328 := by rw [N8_len, List.length_map, List.length_take]; omega
    have hs : bytesOf (B ((l.take (i + 1)).map lowB)) = bytesOf (B ((l.take i).map lowB)) ++ [((lowB l[i]).toNat : Int)] := by
      rw [List.take_succ_eq_append_getElem hlt, List.map_append, ← N8_app]
      rfl
    rw [hs, lowB_nat] at hi'
    refine Ev.step (fun k => by simp only [tollgateref09_Lower.l0]; rfl) (Ev.pos (by rw [B_size]; omega) (Ev.pos (by omega) ?_))
    rw [B_bt l i hlt, hw]
    by_cases h1 : 65 ≤ l[i].toNat
    · by_cases h2 : l[i].toNat ≤ 90
      · rw [if_pos ⟨h1, h2⟩] at hi'
        exact Ev.pos (by omega) (Ev.pos (by omega) (Ev.pos hlen hi'))
      · rw [if_neg (fun h => h2 h.2)] at hi'
        exact Ev.pos (by omega) (Ev.neg (by omega) (Ev.pos hlen hi'))
    · rw [if_neg (fun h => h1 h.1)] at hi'
      exact Ev.neg (by omega) (Ev.pos hlen hi')
theorem rLower_is (l : List UInt8) (hl : l.length ≤ 4294967296) : Ev (fun k => tollgateref09_Lower.f k (B l)) (B (l.map lowB)) := rlower_is l hl l.length 0 (by omega)
theorem rcut_is (c : UInt8) (l : List UInt8) (hl : l.length ≤ 4294967296) : ∀ (s a : List UInt8), l = a ++ s → c ∉ a → Ev (fun k => tollgateref09_cut.l0 k (B l) (c.toNat : Int) (a.length : Int)) (B (cutC c l).1, B (cutC c l).2.1, (cutC c l).2.2) := by
  intro s
  induction s with
  | nil =>
    intro a ha hc
    rw [List.append_nil] at ha
    subst ha
    rw [cutC_no c l hc]
    exact Ev.step (fun k => by simp only [tollgateref09_cut.l0]; rfl) (Ev.neg (by rw [B_size]; omega) (Ev.ret rfl))
  | cons x s ih =>
    intro a ha hc
    have hlen : l.length = a.length + (s.length + 1) := by rw [ha]; simp
    have hlt : a.length < l.length := by omega
    have hx : l[a.length] = x := by simp [ha]
    have hw := wrap_succ a.length (by omega)
    refine Ev.step (fun k => by simp only [tollgateref09_cut.l0]; rfl) (Ev.pos (by rw [B_size]; omega) (Ev.pos (by omega) ?_))
    rw [B_bt l a.length hlt, hx, hw, B_size]
    by_cases h : x = c
    · subst h
      refine Ev.pos rfl (Ev.pos (by omega) (Ev.pos (by omega) (Ev.pos (by omega) (Ev.ret ?_))))
      rw [B_extract, B_extract, Int.toNat_natCast, Int.toNat_natCast, List.drop_zero, Nat.sub_zero, ha, cutC_one x s a hc]
      have e1 : (a ++ x :: s).take a.length = a := List.take_left' rfl
      have e2 : (a ++ x :: s).drop (a.length + 1) = s := by simp
      rw [e1, e2, List.take_of_length_le (by simp; omega)]
    · refine Ev.neg (fun he => h (UInt8.toNat_inj.1 (by omega))) ?_
      have := ih (a ++ [x]) (by rw [ha]; simp) (by simp [hc]; exact fun e => h e.symm)
      rw [List.length_append] at this
      exact this
theorem rCut_is (c : UInt8) (l : List UInt8) (hl : l.length ≤ 4294967296) : Ev (fun k => tollgateref09_cut.f k (B l) (c.toNat : Int)) (B (cutC c l).1, B (cutC c l).2.1, (cutC c l).2.2) := rcut_is c l hl l [] rfl (by simp)
/-! hosts -/
def dotsR : Bool → List UInt8 → Bool
  | pv, [] => !pv
  | pv, c :: r => if c = 46 then !pv && dotsR true r else hbB c && dotsR false r
theorem splitC_ne (c : UInt8) : ∀ l, ∃ x r, splitC c l = x :: r
  | [] => ⟨[], [], rfl⟩
  | b :: l => by
    rw [splitC]
    split
    · exact ⟨_, _, rfl⟩
    · obtain ⟨x, r, h⟩ := splitC_ne c l
      rw [h]
      exact ⟨_, _, rfl⟩
theorem dots_is : ∀ (l x : List UInt8) (r : List (List UInt8)), splitC 46 l = x :: r → dotsR false l = (x.all hbB && r.all partOk) ∧ dotsR true l = (partOk x && r.all partOk) := by
  intro l
  induction l with
  | nil =>
    intro x r h
    simp only [splitC, List.cons.injEq] at h
    obtain ⟨rfl, rfl⟩ := h
    exact ⟨rfl, rfl⟩
  | cons c l ih =>
    intro x r h
    obtain ⟨y, s, hs⟩ := splitC_ne 46 l
    obtain ⟨i1, i2⟩ := ih y s hs
    rw [splitC, hs] at h
    by_cases hc : c = 46
    · rw [if_pos hc] at h
      simp only [List.cons.injEq] at h
      obtain ⟨rfl, rfl⟩ := h
      simp only [dotsR, if_pos hc, i2]
      exact ⟨by simp, by simp [partOk]⟩
    · rw [if_neg hc] at h
      simp only [List.cons.injEq] at h
      obtain ⟨rfl, rfl⟩ := h
      simp only [dotsR, if_neg hc, i1]
      have hcy : (c :: y != []) = true := rfl
      exact ⟨by simp [Bool.and_assoc], by simp only [partOk, List.all_cons, hcy, Bool.and_true, Bool.and_assoc]⟩
theorem dots_all (l : List UInt8) : (splitC 46 l).all partOk = dotsR true l := by
  obtain ⟨x, r, h⟩ := splitC_ne 46 l
  rw [h, List.all_cons, (dots_is l x r h).2]
theorem dots_bytes : ∀ (l : List UInt8) (pv : Bool), dotsR pv l = true → l.all (fun c => hbB c || decide (c = 46)) = true
  | [], _, _ => rfl
  | c :: l, pv, h => by
    rw [dotsR] at h
    rw [List.all_cons, Bool.and_eq_true]
    by_cases hc : c = 46
    · rw [if_pos hc, Bool.and_eq_true] at h
      exact ⟨by simp [hc], dots_bytes l true h.2⟩
    · rw [if_neg hc, Bool.and_eq_true] at h
      exact ⟨by simp [h.1], dots_bytes l false h.2⟩
def hbS : List UInt8 := [97, 98, 99, 100, 101, 102, 103, 104, 105, 106, 107, 108, 109, 110, 111, 112, 113, 114, 115, 116, 117, 118, 119, 120, 121, 122, 65, 66, 67, 68, 69, 70, 71, 72, 73, 74, 75, 76, 77, 78, 79, 80, 81, 82, 83, 84, 85, 86, 87, 88, 89, 90, 48, 49, 50, 51, 52, 53, 54, 55, 56, 57, 45, 46]
def digS : List UInt8 := [48, 49, 50, 51, 52, 53, 54, 55, 56, 57]
theorem hbS_is : ∀ b : UInt8, hbS.contains b = (hbB b || decide (b = 46)) := u8_all (P := fun b => hbS.contains b = (hbB b || decide (b = 46))) (by decide +kernel)
theorem digS_is : ∀ b : UInt8, digS.contains b = digB b := u8_all (by decide +kernel)
theorem rhost_is (h : List UInt8) (hl : h.length ≤ 4294967296) (hall : h.all (fun c => hbB c || decide (c = 46)) = true) : ∀ (d i : Nat) (pv : Bool), i + d = h.length → (pv = true → i < h.length) → (pv = true ↔ i = 0 ∨ h[i - 1]? = some 46) →
    Ev (fun k => tollgateref09_Host.l0 k (B h) (i : Int)) (if dotsR pv (h.drop i) = true then (B (h.map lowB), true) else (B [], false)) := by
  intro d
  induction d with
  | zero =>
    intro i pv hi hp _
    have hpf : pv = false := by
      cases pv with
      | false => rfl
      | true => have := hp rfl; omega
    rw [List.drop_eq_nil_of_le (by omega), hpf, if_pos (show dotsR false [] = true from rfl)]
    exact Ev.step (fun k => by simp only [tollgateref09_Host.l0]; rfl) (Ev.neg (by rw [B_size]; omega) (Ev.bind (rLower_is h hl) (Ev.ret rfl)))
  | succ d ih =>
    intro i pv hi hp hpv
    have hlt : i < h.length := by omega
    have hw := wrap_succ i (by omega)
    have hwl : wrap64 ((h.length : Int) - 1) = ((h.length - 1 : Nat) : Int) := by unfold wrap64; omega
    have hdr : h.drop i = h[i] :: h.drop (i + 1) := List.drop_eq_getElem_cons hlt
    rw [hdr, dotsR]
    refine Ev.step (fun k => by simp only [tollgateref09_Host.l0]; rfl) (Ev.pos (by rw [B_size]; omega) (Ev.pos (by omega) ?_))
    rw [B_bt h i hlt, hw, B_size, hwl]
    by_cases h46 : h[i] = 46
    · rw [if_pos h46]
      refine Ev.pos (by rw [h46]; rfl) ?_
      by_cases hi0 : i = 0
      · rw [hpv.2 (.inl hi0)]
        exact Ev.pos (by omega) (Ev.ret rfl)
      · refine Ev.neg (by omega) ?_
        by_cases hie : i = h.length - 1
        · rw [List.drop_eq_nil_of_le (by omega)]
          rw [show (!pv && dotsR true []) = false by simp [dotsR]]
          exact Ev.pos (by omega) (Ev.ret rfl)
        · have hw1 : wrap64 ((i : Int) - 1) = ((i - 1 : Nat) : Int) := by unfold wrap64; omega
          refine Ev.neg (by omega) ?_
          rw [hw1]
          refine Ev.pos (by omega) (Ev.pos (by omega) ?_)
          rw [B_bt h (i - 1) (by omega)]
          have hge : h[i - 1]? = some h[i - 1] := List.getElem?_eq_getElem (by omega)
          by_cases hpd : h[i - 1] = 46
          · rw [hpv.2 (.inr (by rw [hge, hpd]))]
            exact Ev.pos (by rw [hpd]; rfl) (Ev.ret rfl)
          · have hpf : pv = false := by
              cases pv with
              | false => rfl
              | true =>
                rcases hpv.1 rfl with h1 | h1
                · exact absurd h1 hi0
                · rw [hge] at h1
                  exact absurd (Option.some.inj h1) hpd
            rw [hpf]
            refine Ev.neg (fun he => hpd (UInt8.toNat_inj.1 (by have : (46 : UInt8).toNat = 46 := rfl; omega))) ?_
            have := ih (i + 1) true (by omega) (fun _ => by omega) ⟨fun _ => .inr (by rw [Nat.add_sub_cancel, List.getElem?_eq_getElem hlt, h46]), fun _ => rfl⟩
            simpa using this
    · rw [if_neg h46]
      refine Ev.neg (fun he => h46 (UInt8.toNat_inj.1 (by have : (46 : UInt8).toNat = 46 := rfl; omega))) ?_
      have hb : hbB h[i] = true := by
        have := (List.all_eq_true.1 hall) h[i] (List.getElem_mem hlt)
        simpa [h46] using this
      have hno : i + 1 = 0 ∨ h[i + 1 - 1]? = some 46 → false = true := by
        intro hh
        rcases hh with hh | hh
        · omega
        · rw [Nat.add_sub_cancel, List.getElem?_eq_getElem hlt] at hh
          exact absurd (Option.some.inj hh) h46
      have := ih (i + 1) false (by omega) (fun hh => by cases hh) ⟨fun hh => (by cases hh), hno⟩
      rw [hb, Bool.true_and]
      exact this
theorem rHost_is (l : List UInt8) (hl : l.length ≤ 1000000000) : Ev (fun k => tollgateref09_Host.f k (B l)) (hostR l) := by
  have hc := rCut_is 58 l (by omega)
  obtain ⟨l1, l2⟩ := cut_le l [58]
  unfold hostR hostS
  rw [split_is 46 _ _ (Nat.le_refl _), cut_is, dots_all]
  rw [cut_is] at l1 l2
  unfold tollgateref09_Host.f
  refine Ev.bind hc ?_
  generalize (cutC 58 l).1 = h at *
  generalize (cutC 58 l).2.1 = port at *
  have hF : Ev (fun k => tollgateref09_Host.j0 k (B h) true) (B ([] : List UInt8), false) := Ev.step (fun k => by simp only [tollgateref09_Host.j0]; rfl) (Ev.pos (by trivial) (Ev.ret rfl))
  by_cases h1 : h.length < 1
  · have : h = [] := List.eq_nil_of_length_eq_zero (by omega)
    subst this
    rw [if_neg (fun hh => by have := hh.2.2.2; simp [dotsR] at this)]
    exact Ev.pos (by rw [B_size]; simp) hF
  · refine Ev.neg (by rw [B_size]; omega) ?_
    by_cases h2 : h.length ≤ 64
    · refine Ev.neg (by rw [B_size]; omega) ?_
      by_cases h3 : port.length ≤ 5
      · refine Ev.neg (by rw [B_size]; omega) (Ev.bind (all_is port digS (by omega) (by decide)) ?_)
        rw [show digS.contains = digB from funext digS_is]
        by_cases h4 : port.all digB = true
        · refine Ev.pos h4 (Ev.bind (all_is h hbS (by omega) (by decide)) ?_)
          rw [show hbS.contains = (fun c => hbB c || decide (c = 46)) from funext hbS_is]
          by_cases h5 : h.all (fun c => hbB c || decide (c = 46)) = true
          · rw [h5]
            refine Ev.step (fun k => by simp only [tollgateref09_Host.j0]; rfl) (Ev.neg (by simp) ?_)
            have := rhost_is h (by omega) h5 h.length 0 true (by omega) (fun _ => by omega) ⟨fun _ => .inl rfl, fun _ => rfl⟩
            rw [List.drop_zero] at this
            refine Ev.res this ?_
            by_cases h6 : dotsR true h = true
            · rw [if_pos h6, if_pos ⟨h4, h3, h2, h6⟩]
            · rw [if_neg h6, if_neg (fun hh => h6 hh.2.2.2)]
          · rw [if_neg (fun hh => h5 (dots_bytes _ _ hh.2.2.2)), Bool.eq_false_iff.2 h5]
            exact hF
        · rw [if_neg (fun hh => h4 hh.1)]
          exact Ev.neg h4 hF
      · rw [if_neg (fun hh => h3 hh.2.1)]
        exact Ev.pos (by rw [B_size]; omega) hF
    · rw [if_neg (fun hh => h2 hh.2.2.1)]
      exact Ev.pos (by rw [B_size]; omega) hF
end Go.Proofs.YtabkdmfnafeaeaaDoor.HP
namespace Go.Proofs.YtabkdmfnafeaeaaDoor.HP
open Go.RowKit Go.Proofs.YtabkdmfnafeaeaaDoor.Q Go.Proofs.YtabkdmfnafeaeaaDoorW.PrintWords Go.Proofs.YtabkdmfnafeaeaaDoorW.PrintLast Go.Proofs.YtabkdmfnafeaeaaDoorW.PrintMore
theorem W2_no (m p q : List UInt8) (fs : List Fd) (n : Nat) : W2 m p q fs false n = ([], 4) := by
  unfold W2
  rw [if_neg (fun h => by cases h.1)]
theorem W2_n (m p q : List UInt8) (fs : List Fd) (ok : Bool) (n : Nat) (h : n ≠ 1) : W2 m p q fs ok n = ([], 4) := by
  unfold W2
  rw [if_neg (fun hh => h hh.2)]
theorem rwrite_l0 (m p q hh : List UInt8) (fs : List Fd) (hpre : (preW m p q).length ≤ 100000000) (hsz : szF fs ≤ 100000000) (hfs : fs.length ≤ 100000000) : ∀ (d i : Nat), i + d = fs.length → ∀ (n : Nat), n ≤ i →
    Ev (fun k => tollgateref09_Write.l0 k (B (preW m p q ++ flatW (fs.take i))) (n : Int) (i : Int) (B m) (B p) (B q) (B hh) (fs.map sF)) (W2 m p q fs ((fs.drop i).all (fOk hh)) (n + nh (fs.drop i))) := by
  intro d
  induction d with
  | zero =>
    intro i hi n hn
    have hle := flatW_le fs i
    have e1 : B (preW m p q ++ flatW (fs.take i)) ++ (⟨#[13, 10]⟩ : ByteArray) = B (writeL m p q fs) := by
      rw [writeL_pre, List.take_of_length_le (by omega)]
      exact B_append _ [13, 10]
    have hlen : (writeL m p q fs).length ≤ 300000000 := by rw [writeL_pre, List.length_append, List.length_append, show flatW fs = flatW (fs.take i) by rw [List.take_of_length_le (by omega)]]; simp; omega
    rw [List.drop_eq_nil_of_le (by omega), List.all_nil, show nh [] = 0 from rfl, Nat.add_zero]
    refine Ev.step (fun k => by simp only [tollgateref09_Write.l0]; rfl) (Ev.neg (by rw [List.length_map]; omega) (Ev.pos (by rw [B_size, List.length_append]; omega) ?_))
    rw [e1, List.length_map, B_size]
    by_cases h1 : n = 1
    · subst h1
      refine Ev.pos rfl ?_
      by_cases h32 : 32 < fs.length
      · rw [W2_a m p q fs (.inl h32)]
        exact Ev.pos (by omega) (Ev.ret rfl)
      · refine Ev.neg (by omega) ?_
        by_cases h2 : 2048 < (writeL m p q fs).length
        · rw [W2_a m p q fs (.inr h2)]
          exact Ev.pos (by omega) (Ev.ret rfl)
        · rw [W2_b m p q fs (by omega)]
          exact Ev.neg (by omega) (Ev.pos (by omega) (Ev.ret rfl))
    · rw [W2_n m p q fs true n h1]
      exact Ev.neg (by omega) (Ev.ret rfl)
  | succ d ih =>
    intro i hi n hn
    have hlt : i < fs.length := by omega
    have hw := wrap_succ i (by omega)
    have hw2 := wrap_succ n (by omega)
    have hle := flatW_le fs i
    have hm := sz_mem (List.getElem_mem hlt)
    have hd : fs.drop i = fs[i] :: fs.drop (i + 1) := List.drop_eq_getElem_cons hlt
    have htk := flatW_take fs i hlt
    have hrd0 := rd_F fs i hlt
    generalize hf : fs[i] = f at hm hd htk hrd0
    have tk := Token_is f.1 (by omega)
    have vl := Value_is f.2 (by omega)
    have lo := rLower_is f.1 (by omega)
    have hx := rHost_is f.2 (by omega)
    have hN : nh (fs.drop i) = (if f.1 = hostL then 1 else 0) + nh (fs.drop (i + 1)) := by
      rw [hd]
      unfold nh
      rw [List.countP_cons]
      by_cases h : f.1 = hostL <;> simp [h] <;> omega
    have e1 : ((((sF f).f0 ++ (⟨#[58, 32]⟩ : ByteArray)) ++ (sF f).f1) ++ (⟨#[13, 10]⟩ : ByteArray)) = B (f.1 ++ 58 :: 32 :: (f.2 ++ [13, 10])) := by
      show ((B f.1 ++ B [58, 32]) ++ B f.2) ++ B [13, 10] = _
      rw [B_append, B_append, B_append]
      simp
    have s1 : ((sF f).f0).size = f.1.length := B_size _
    have s2 : ((sF f).f0 ++ (⟨#[58, 32]⟩ : ByteArray)).size = f.1.length + 2 := by rw [ByteArray.size_append, s1]; rfl
    have s3 : ((sF f).f1).size = f.2.length := B_size _
    have s4 : (((sF f).f0 ++ (⟨#[58, 32]⟩ : ByteArray)) ++ (sF f).f1).size = f.1.length + 2 + f.2.length := by rw [ByteArray.size_append, s2, s3]
    have s5 : (B (f.1 ++ 58 :: 32 :: (f.2 ++ [13, 10]))).size = f.1.length + f.2.length + 4 := by rw [B_size]; simp; omega
    have hB0 : (B (preW m p q ++ flatW (fs.take i))).size = (preW m p q).length + (flatW (fs.take i)).length := by rw [B_size, List.length_append]
    have hApp : B (preW m p q ++ flatW (fs.take i)) ++ B (f.1 ++ 58 :: 32 :: (f.2 ++ [13, 10])) = B (preW m p q ++ flatW (fs.take (i + 1))) := by rw [B_append, List.append_assoc, ← htk]
    have hbad : fOk hh f = false → Ev (fun k => tollgateref09_Write.j3 k (B (preW m p q ++ flatW (fs.take i))) (n : Int) (i : Int) true (B m) (B p) (B q) (B hh) (fs.map sF) (sF f).f0 (sF f).f1) (W2 m p q fs ((fs.drop i).all (fOk hh)) (n + nh (fs.drop i))) := by
      intro hb
      rw [hd, List.all_cons, hb, Bool.false_and, W2_no]
      exact Ev.step (fun k => by simp only [tollgateref09_Write.j3]; rfl) (Ev.pos (by trivial) (Ev.ret rfl))
    refine Ev.step (fun k => by simp only [tollgateref09_Write.l0]; rfl) (Ev.pos (by rw [List.length_map]; omega) (Ev.pos (by omega) ?_))
    rw [hrd0]
    refine Ev.bind tk ?_
    cases h1 : tokOk f.1 with
    | false => exact Ev.neg (by simp) (hbad (by simp [fOk, h1]))
    | true =>
      refine Ev.pos rfl (Ev.bind lo ?_)
      by_cases h2 : f.1.map lowB = f.1
      · refine Ev.pos (by show (B (f.1.map lowB)).toList = (B f.1).toList; rw [h2]) (Ev.bind vl ?_)
        cases h3 : valOk f.2 with
        | false => exact hbad (by simp [fOk, h3])
        | true =>
          refine Ev.step (fun k => by simp only [tollgateref09_Write.j3]; rfl) (Ev.neg (by simp) ?_)
          by_cases h : f.1 = hostL
          · refine Ev.pos (by show (B f.1).toList = _; rw [B_toList]; exact h) (Ev.bind hx ?_)
            have hfo := fOk_eq (hh := hh) h1 h2 h3 h
            by_cases hb : (hostS f.2).2 = true
            · refine Ev.pos hb ?_
              by_cases he : (hostS f.2).1 = hh
              · have hok : fOk hh f = true := by rw [hfo]; exact decide_eq_true (Prod.ext he hb)
                refine Ev.pos (by show (B (hostS f.2).1).toList = (B hh).toList; rw [he]) ?_
                rw [e1, s1, s2, s3, s4, s5, hB0, hApp, hw, hw2]
                have h := ih (i + 1) (by omega) (n + 1) (by omega)
                refine Ev.pos (by omega) (Ev.pos (by omega) (Ev.pos (by omega) (Ev.pos (by omega) (Ev.res h ?_))))
                rw [hd, List.all_cons, hok, Bool.true_and, ← hd, hN, if_pos (by assumption), ← Nat.add_assoc]
              · have hok : fOk hh f = false := by rw [hfo]; exact decide_eq_false (fun hq => he (by rw [hq]))
                rw [hd, List.all_cons, hok, Bool.false_and, W2_no]
                exact Ev.neg (by show ¬ (B (hostS f.2).1).toList = (B hh).toList; rw [B_toList, B_toList]; exact he) (Ev.ret rfl)
            · have hok : fOk hh f = false := by rw [hfo]; exact decide_eq_false (fun hq => hb (by rw [hq]))
              rw [hd, List.all_cons, hok, Bool.false_and, W2_no]
              exact Ev.neg hb (Ev.ret rfl)
          · have hok : fOk hh f = true := by simp [fOk, h1, h2, h3, h]
            refine Ev.neg (by show ¬ (B f.1).toList = _; rw [B_toList]; exact h) ?_
            rw [e1, s1, s2, s3, s4, s5, hB0, hApp, hw]
            have hI := ih (i + 1) (by omega) n (by omega)
            refine Ev.pos (by omega) (Ev.pos (by omega) (Ev.pos (by omega) (Ev.pos (by omega) (Ev.res hI ?_))))
            rw [hd, List.all_cons, hok, Bool.true_and, ← hd, hN, if_neg h, Nat.zero_add]
      · exact Ev.neg (by show ¬ (B (f.1.map lowB)).toList = (B f.1).toList; rw [B_toList, B_toList]; exact h2) (hbad (by simp [fOk, h2]))
theorem rwrite_is (m p q hh : List UInt8) (fs : List Fd) (hpre : (preW m p q).length ≤ 100000000) (hsz : szF fs ≤ 100000000) (hfs : fs.length ≤ 100000000) :
    Ev (fun k => tollgateref09_Write.f k (B m) (B p) (B q) (B hh) (fs.map sF)) (W2 m p q fs (wOk m p q hh fs) (nh fs)) := by
  have hl : m.length + (tgt p q).length + 12 = (preW m p q).length := by simp [preW, verL]; omega
  have htl := tgt_length p q
  have hbad : Ev (fun k => tollgateref09_Write.j0 k true (B m) (B p) (B q) (B hh) (fs.map sF)) ([], 4) := Ev.step (fun k => by simp only [tollgateref09_Write.j0]; rfl) (Ev.pos (by trivial) (Ev.ret rfl))
  have h0 := rwrite_l0 m p q hh fs hpre hsz hfs fs.length 0 (by omega) 0 (by omega)
  rw [List.drop_zero, Nat.zero_add] at h0
  have hj1 : Ev (fun k => tollgateref09_Write.j1 k (B (m ++ 32 :: tgt p q)) (B m) (B p) (B q) (B hh) (fs.map sF)) (W2 m p q fs (fs.all (fOk hh)) (nh fs)) := by
    have e1 : B (m ++ 32 :: tgt p q) ++ (⟨#[32, 72, 84, 84, 80, 47, 49, 46, 49, 13, 10]⟩ : ByteArray) = B (preW m p q ++ flatW (fs.take 0)) := by
      show B _ ++ B (32 :: (verL ++ [13, 10])) = _
      rw [B_append]
      congr 1
      simp [preW, flatW]
    refine Ev.step (fun k => by simp only [tollgateref09_Write.j1]; rfl) (Ev.pos (by rw [B_size]; simp; omega) ?_)
    rw [e1]
    exact h0
  have hj0 : Ev (fun k => tollgateref09_Write.j0 k false (B m) (B p) (B q) (B hh) (fs.map sF)) (W2 m p q fs (fs.all (fOk hh)) (nh fs)) := by
    have e1 : B m ++ (⟨#[32]⟩ : ByteArray) = B (m ++ [32]) := B_append m [32]
    have e2 : B (m ++ [32]) ++ B p = B (m ++ 32 :: p) := by rw [B_append]; simp
    refine Ev.step (fun k => by simp only [tollgateref09_Write.j0]; rfl) (Ev.neg (by simp) ?_)
    rw [e1, e2, B_size, B_size, B_size]
    refine Ev.pos (by omega) (Ev.pos (by simp; omega) ?_)
    by_cases hq : q = []
    · refine Ev.pos (by rw [B_toList]; exact hq) ?_
      rw [show m ++ 32 :: p = m ++ 32 :: tgt p q by simp [tgt, hq]]
      exact hj1
    · have ht : tgt p q = p ++ 63 :: q := by simp [tgt, hq]
      have hq1 : q.length + 1 ≤ (tgt p q).length := by rw [ht]; simp
      have e3 : (⟨#[63]⟩ : ByteArray) ++ B q = B (63 :: q) := B_append [63] q
      have e4 : B (m ++ 32 :: p) ++ B (63 :: q) = B (m ++ 32 :: tgt p q) := by rw [B_append, ht]; simp
      refine Ev.neg (by rw [B_toList]; exact hq) ?_
      rw [e3, e4, B_size, B_size, B_size]
      exact Ev.pos (by omega) (Ev.pos (by simp; omega) hj1)
  unfold tollgateref09_Write.f wOk
  refine Ev.bind (Token_is m (by omega)) ?_
  cases tokOk m with
  | false =>
    rw [Bool.false_and, Bool.false_and, Bool.false_and, W2_no]
    exact Ev.neg (by simp) hbad
  | true =>
    refine Ev.pos rfl (Ev.bind (Path_is p (by omega)) ?_)
    cases pathL p with
    | false =>
      rw [Bool.and_false, Bool.false_and, Bool.false_and, W2_no]
      exact Ev.neg (by simp) hbad
    | true =>
      refine Ev.pos rfl (Ev.bind (Query_is q (by omega)) ?_)
      cases suchL true q with
      | false =>
        rw [Bool.and_false, Bool.false_and, W2_no]
        exact hbad
      | true => exact hj0
end Go.Proofs.YtabkdmfnafeaeaaDoor.HP
