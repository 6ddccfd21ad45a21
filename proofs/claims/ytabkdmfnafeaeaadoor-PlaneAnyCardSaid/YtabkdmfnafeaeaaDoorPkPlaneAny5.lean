/- Walks and plain facts, joined out of several texts: what the row of PlaneAny leads to. -/
import Derived.Test.YtabkdmfnafeaeaaDoorPkPlaneAny4
import Derived.Lib.CountLaws
import Derived.Lib.IndexLaws
import Derived.Lib.Split
import Derived.Laws.FloatBits
section
namespace Go.Proofs.YtabkdmfnafeaeaaDoor.HP
open Go.RowKit Go.Proofs.YtabkdmfnafeaeaaDoor.S Go.Proofs.YtabkdmfnafeaeaaDoorW.PrintWords Go.Proofs.YtabkdmfnafeaeaaDoorW.PrintLast Go.Proofs.YtabkdmfnafeaeaaDoorW.PrintMore
theorem Ev.pos {α : Type} {c : Prop} [Decidable c] {a b : Nat → Option α} {r : α} (hc : c) (h : Ev a r) : Ev (fun k => if c then a k else b k) r := Ev.congr (fun _ => if_pos hc) h
theorem Ev.neg {α : Type} {c : Prop} [Decidable c] {a b : Nat → Option α} {r : α} (hc : ¬ c) (h : Ev b r) : Ev (fun k => if c then a k else b k) r := Ev.congr (fun _ => if_neg hc) h
theorem Ev.put {α β : Type} {x : β} {f : Nat → β → Option α} {r : α} (h : Ev (fun k => f k x) r) : Ev (fun k => (some x).bind (f k)) r := h
theorem Ev.call {α β : Type} {g : Option β} {x : β} {f : Nat → β → Option α} {r : α} (hg : g = some x) (h : Ev (fun k => f k x) r) : Ev (fun k => g.bind (f k)) r := by rw [hg]; exact h
theorem Ev.ret {α : Type} {a r : α} (h : a = r) : Ev (fun _ => some a) r := by rw [h]; exact Ev.now _
def B (l : List UInt8) : ByteArray := ⟨l.toArray⟩
theorem B_list (l : List UInt8) : (B l).data.toList = l := by simp [B]
theorem B_of (s : ByteArray) : B s.data.toList = s := by simp [B]
theorem B_size (l : List UInt8) : (B l).size = l.length := by simp [B, ByteArray.size]
theorem B_toList (l : List UInt8) : (B l).toList = l := by rw [Lib.toList_data, B_list]
theorem B_bt (l : List UInt8) (i : Nat) (hi : i < l.length) : bt (B l) (i : Int) = ((l[i]).toNat : Int) := by
  unfold bt
  rw [dif_pos (by rw [Int.toNat_natCast, B_size]; exact hi)]
  simp only [Int.toNat_natCast]
  rfl
theorem B_extract (l : List UInt8) (i j : Nat) : (B l).extract i j = B ((l.drop i).take (j - i)) := by
  rw [← B_of ((B l).extract i j), Lib.extract_data, B_list]
theorem wrap_succ (i : Nat) (h : i < 9223372036854775807) : wrap64 ((i : Int) + 1) = ((i + 1 : Nat) : Int) := by unfold wrap64; omega
theorem Cut_is (s sep : List UInt8) (hs : s.length < 4294967281) : strings_Cut.f (B s) (B sep) = some (B (Lib.cut s sep).1, B (Lib.cut s sep).2.1, (Lib.cut s sep).2.2) := by
  unfold strings_Cut.f
  rw [if_pos (by rw [B_size]; exact hs), B_list, B_list]
  rfl
theorem Split_is (s sep : List UInt8) (hs : s.length < 4294967281) (h1 : 1 ≤ sep.length) : strings_Split.f (B s) (B sep) = some ((Lib.split s sep).map B) := by
  unfold strings_Split.f
  rw [if_pos ⟨by rw [B_size]; exact hs, by rw [B_size]; exact h1⟩]
  congr 1
  have h := Lib.splitB_data (B sep) 0 (Lib.countB (B s) (B sep)) (B s)
  rw [B_list, B_list] at h
  have hc : Lib.countB (B s) (B sep) = Lib.count s sep := by
    show Lib.count _ _ = _
    rw [B_list, B_list]
  unfold Lib.split
  rw [← hc, ← h, List.map_map]
  conv => lhs; rw [← List.map_id (Lib.splitB (B sep) 0 (Lib.countB (B s) (B sep)) (B s))]
  apply List.map_congr_left
  intro x _
  exact (B_of x).symm
theorem N8_B (l : List UInt8) : bytesOf (B l) = l.map (fun b => (b.toNat : Int)) := by rw [bytesOf, B_list]
theorem N8_back (l : List UInt8) : Lib.bytesOf (l.map (fun b => (b.toNat : Int))) = l := by
  unfold Lib.bytesOf
  rw [List.map_map]
  conv => rhs; rw [← List.map_id l]
  apply List.map_congr_left
  intro b _
  simp
theorem strOf_N8 (l : List UInt8) : strOfNums (l.map (fun b => (b.toNat : Int))) = B l := by
  unfold strOfNums B
  congr 2
  exact N8_back l
theorem N8_all (l : List UInt8) : ((l.map (fun b => (b.toNat : Int))).all fun x => decide (0 ≤ x ∧ x < 256)) = true := by
  rw [List.all_eq_true]
  intro x hx
  obtain ⟨b, _, rfl⟩ := List.mem_map.1 hx
  have := b.toNat_lt
  exact decide_eq_true ⟨by omega, by omega⟩
theorem Index_is (l sub : List UInt8) (hl : l.length < 4294967281) (h2 : 2 ≤ sub.length) (h3 : sub.length ≤ 100) : bytes_Index.f (l.map (fun b => (b.toNat : Int))) (sub.map (fun b => (b.toNat : Int))) = some (Lib.index l sub) := by
  unfold bytes_Index.f
  rw [if_pos ⟨N8_all l, N8_all sub, by rw [List.length_map]; exact hl, by rw [List.length_map]; exact h2, by rw [List.length_map]; omega⟩, N8_back, N8_back]
theorem Lower_is (l : List UInt8) (hl : l.length ≤ 4294967296) : head_lower.f (B l) = some (B (l.map lowB)) := by
  unfold head_lower.f
  rw [if_pos (by rw [B_size]; omega), B_list]
  rfl
theorem Trim_is (l cs : List UInt8) (hl : l.length ≤ 4294967296) (hc : cs.length ≤ 100) (ha : cs.all (fun b => decide (b.toNat < 128)) = true) : strings_Trim.f (B l) (B cs) = some (B (Lib.trimS l cs)) := by
  unfold strings_Trim.f
  rw [if_pos ⟨by rw [B_size]; omega, by rw [B_size]; omega, by rw [B_list]; exact ha⟩, B_list, B_list]
  rfl
def alB (b : UInt8) : Bool := decide (97 ≤ b.toNat ∧ b.toNat ≤ 122 ∨ 65 ≤ b.toNat ∧ b.toNat ≤ 90 ∨ 48 ≤ b.toNat ∧ b.toNat ≤ 57)
def tokB (b : UInt8) : Bool := alB b || decide (0 ≤ Lib.indexByte [33, 35, 36, 37, 38, 39, 42, 43, 45, 46, 94, 95, 96, 124, 126] b)
def tokOk (l : List UInt8) : Bool := l.all tokB && (l != [])
theorem alnum_is (b : UInt8) : head_alnum.f (b.toNat : Int) = some (alB b) := by
  unfold head_alnum.f alB
  repeat' split
  all_goals simp only [Option.some.injEq]
  all_goals first
    | (symm; rw [decide_eq_true_eq]; omega)
    | (rw [decide_eq_decide]; omega)
    | (symm; rw [decide_eq_false_iff_not]; omega)
theorem token_loop (l : List UInt8) (hl : l.length ≤ 4294967296) : ∀ (d i : Nat), i + d = l.length → Ev (fun k => head_token.l0 k (B l) (l.length : Int) (i : Int)) ((l.drop i).all tokB && (l != [])) := by
  intro d
  induction d with
  | zero =>
    intro i hi
    refine Ev.step (fun k => by simp only [head_token.l0]; rfl) (Ev.neg (by omega) (Ev.ret ?_))
    rw [B_toList, List.drop_eq_nil_of_le (by omega)]
    simp
  | succ d ih =>
    intro i hi
    have hlt : i < l.length := by omega
    have hw := wrap_succ i (by omega)
    have hd : l.drop i = l[i] :: l.drop (i + 1) := List.drop_eq_getElem_cons hlt
    have hx : (B l).extract (i : Int).toNat ((i + 1 : Nat) : Int).toNat = B [l[i]] := by
      rw [Int.toNat_natCast, Int.toNat_natCast, B_extract, hd, Nat.add_sub_cancel_left]
      rfl
    have hi' := ih (i + 1) (by omega)
    refine Ev.step (fun k => by simp only [head_token.l0]; rfl) ?_
    refine Ev.pos (by omega) (Ev.pos (by omega) (Ev.pos (by rw [B_size]; omega) ?_))
    rw [B_bt l i hlt, hw]
    refine Ev.call (alnum_is _) ?_
    rw [hd, List.all_cons]
    cases hA : alB l[i] with
    | true =>
      refine Ev.pos rfl ?_
      have ht : tokB l[i] = true := by simp [tokB, hA]
      rw [ht, Bool.true_and]
      exact hi'
    | false =>
      refine Ev.neg (by simp) (Ev.pos (by omega) (Ev.pos (by rw [B_size]; omega) ?_))
      rw [hx]
      have hc : strings_Contains.f (⟨#[33, 35, 36, 37, 38, 39, 42, 43, 45, 46, 94, 95, 96, 124, 126]⟩ : ByteArray) (B [l[i]]) = some (tokB l[i]) := by
        unfold strings_Contains.f
        rw [if_pos (by rw [B_size]; rfl), B_list]
        simp [tokB, hA]
      refine Ev.call hc ?_
      cases ht : tokB l[i] with
      | true => exact Ev.pos rfl (by rw [Bool.true_and]; exact hi')
      | false => exact Ev.neg (by simp) (Ev.ret (by simp))
theorem token_is (l : List UInt8) (hl : l.length ≤ 4294967296) : Ev (fun k => head_token.f k (B l)) (tokOk l) := by
  unfold head_token.f
  rw [B_size]
  exact token_loop l hl l.length 0 (by omega)
def blankB (b : UInt8) : Bool := decide (b.toNat = 9 ∨ b.toNat = 32)
def valB (b : UInt8) : Bool := decide ((b.toNat = 9 ∨ 32 ≤ b.toNat) ∧ b.toNat ≠ 127)
def endsOk (l : List UInt8) : Bool := match l with
  | [] => true
  | x :: r => !blankB x && !blankB ((x :: r).getLastD 0)
def valOk (l : List UInt8) : Bool := l.all valB && endsOk l
theorem blank_is (b : UInt8) : head_blank.f (b.toNat : Int) = some (blankB b) := by
  unfold head_blank.f blankB
  split
  · rename_i h
    simp only [Option.some.injEq]
    symm
    rw [decide_eq_true_eq]
    omega
  · rename_i h
    simp only [Option.some.injEq]
    rw [show ((b.toNat : Int) == 32) = decide ((b.toNat : Int) = 32) from rfl, decide_eq_decide]
    omega
theorem value_loop (l : List UInt8) (hl : l.length ≤ 4294967296) : ∀ (d i : Nat), i + d = l.length → Ev (fun k => head_value.l0 k (B l) (l.length : Int) (i : Int)) ((l.drop i).all valB && endsOk l) := by
  intro d
  induction d with
  | zero =>
    intro i hi
    refine Ev.step (fun k => by simp only [head_value.l0]; rfl) (Ev.neg (by omega) ?_)
    rw [B_toList, List.drop_eq_nil_of_le (by omega), List.all_nil, Bool.true_and]
    cases hc : l with
    | nil => exact Ev.pos rfl (Ev.ret rfl)
    | cons x r =>
      have hE : endsOk (x :: r) = (!blankB x && !blankB (l.getLastD 0)) := by rw [hc]; rfl
      rw [hE, ← hc]
      clear hE
      have h0 : 0 < l.length := by rw [hc]; simp
      have hb0 : bt (B l) 0 = (x.toNat : Int) := by
        have := B_bt l 0 h0
        simpa [hc] using this
      have hw : wrap64 (((B l).size : Int) - 1) = ((l.length - 1 : Nat) : Int) := by rw [B_size]; unfold wrap64; omega
      have hbl : bt (B l) ((l.length - 1 : Nat) : Int) = ((l.getLastD 0).toNat : Int) := by
        rw [B_bt l (l.length - 1) (by omega)]
        congr 2
        rw [List.getLastD_eq_getLast?, List.getLast?_eq_getElem?, List.getElem?_eq_getElem (by omega)]
        rfl
      refine Ev.neg (by rw [hc]; simp) (Ev.pos (by rw [B_size]; omega) ?_)
      rw [hb0]
      refine Ev.call (blank_is x) ?_
      cases hx : blankB x with
      | true => exact Ev.pos rfl (Ev.ret rfl)
      | false =>
        refine Ev.neg (by simp) ?_
        rw [hw, hbl]
        exact Ev.pos (by omega) (Ev.pos (by rw [B_size]; omega) (Ev.call (blank_is _) (Ev.ret (by simp))))
  | succ d ih =>
    intro i hi
    have hlt : i < l.length := by omega
    have hw := wrap_succ i (by omega)
    have hd : l.drop i = l[i] :: l.drop (i + 1) := List.drop_eq_getElem_cons hlt
    have hi' := ih (i + 1) (by omega)
    refine Ev.step (fun k => by simp only [head_value.l0]; rfl) ?_
    refine Ev.pos (by omega) (Ev.pos (by omega) (Ev.pos (by rw [B_size]; omega) ?_))
    rw [B_bt l i hlt, hw, hd, List.all_cons]
    cases hv : valB l[i] with
    | true =>
      have hv' : (l[i].toNat = 9 ∨ 32 ≤ l[i].toNat) ∧ l[i].toNat ≠ 127 := of_decide_eq_true hv
      rw [Bool.true_and]
      by_cases h9 : (l[i].toNat : Int) = 9
      · exact Ev.pos h9 (Ev.neg (by omega) hi')
      · exact Ev.neg h9 (Ev.neg (by omega) (Ev.neg (by omega) hi'))
    | false =>
      have hv' : ¬ ((l[i].toNat = 9 ∨ 32 ≤ l[i].toNat) ∧ l[i].toNat ≠ 127) := of_decide_eq_false hv
      rw [Bool.false_and, Bool.false_and]
      by_cases h9 : (l[i].toNat : Int) = 9
      · exact absurd hv' (by omega)
      · refine Ev.neg h9 ?_
        by_cases h32 : (l[i].toNat : Int) < 32
        · exact Ev.pos h32 (Ev.ret rfl)
        · exact Ev.neg h32 (Ev.pos (by omega) (Ev.ret rfl))
theorem value_is (l : List UInt8) (hl : l.length ≤ 4294967296) : Ev (fun k => head_value.f k (B l)) (valOk l) := by
  unfold head_value.f
  rw [B_size]
  exact value_loop l hl l.length 0 (by omega)
end Go.Proofs.YtabkdmfnafeaeaaDoor.HP
end
section
namespace Go.Proofs.YtabkdmfnafeaeaaDoor.PP
open Go.RowKit Go.Proofs.YtabkdmfnafeaeaaDoor.S Go.Proofs.YtabkdmfnafeaeaaDoorW.PrintWords Go.Proofs.YtabkdmfnafeaeaaDoorW.PrintLast Go.Proofs.YtabkdmfnafeaeaaDoorW.PrintMore
theorem Ev.pos {α : Type} {c : Prop} [Decidable c] {a b : Nat → Option α} {r : α} (hc : c) (h : Ev a r) : Ev (fun k => if c then a k else b k) r := Ev.congr (fun _ => if_pos hc) h
theorem Ev.neg {α : Type} {c : Prop} [Decidable c] {a b : Nat → Option α} {r : α} (hc : ¬ c) (h : Ev b r) : Ev (fun k => if c then a k else b k) r := Ev.congr (fun _ => if_neg hc) h
theorem Ev.put {α β : Type} {x : β} {f : Nat → β → Option α} {r : α} (h : Ev (fun k => f k x) r) : Ev (fun k => (some x).bind (f k)) r := h
theorem Ev.call {α β : Type} {g : Option β} {x : β} {f : Nat → β → Option α} {r : α} (hg : g = some x) (h : Ev (fun k => f k x) r) : Ev (fun k => g.bind (f k)) r := by rw [hg]; exact h
theorem Ev.ret {α : Type} {a r : α} (h : a = r) : Ev (fun _ => some a) r := by rw [h]; exact Ev.now _
theorem live_is : Ev (fun k => tollgatelaw10_live.f k) true :=
  Ev.of (k := 12) (fun k => tollgatelaw10_live.mono k) (by decide +kernel)

theorem toList_nil (s : ByteArray) : s.toList = [] ↔ s.size = 0 := by
  rw [ByteArray.toList_eq, ← List.length_eq_zero_iff, Array.length_toList]
  rfl
theorem bt_extract (s : ByteArray) (a : Nat) : bt (s.extract a s.size) 0 = bt s (a : Int) := by
  unfold bt
  simp only [Int.toNat_natCast, show (0 : Int).toNat = 0 from rfl]
  by_cases h : a < s.size
  · rw [dif_pos (by rw [ByteArray.size_extract]; omega), dif_pos h]
    simp [ByteArray.getElem_extract]
  · rw [dif_neg (by rw [ByteArray.size_extract]; omega), dif_neg h]
theorem last_is (p : ByteArray) (h : 1 ≤ p.size) (c : UInt8) : ((p.extract (p.size - 1) p.size).toList == [c]) = (bt p ((p.size - 1 : Nat) : Int) == (c.toNat : Int)) := by
  have e : (p.extract (p.size - 1) p.size).toList = [p[p.size - 1]'(by omega)] := by
    rw [ByteArray.toList_eq]
    apply List.ext_getElem?
    intro i
    rw [ByteArray.data_extract, Array.getElem?_toList]
    by_cases hi : i = 0
    · subst hi
      rw [Array.getElem?_eq_getElem (by simp; have : p.size = p.data.size := rfl; omega)]
      simp
      rfl
    · rw [Array.getElem?_eq_none (by simp; have : p.size = p.data.size := rfl; omega), List.getElem?_eq_none (by simp; omega)]
  have e2 : bt p ((p.size - 1 : Nat) : Int) = ((p[p.size - 1]'(by omega)).toNat : Int) := by
    unfold bt
    rw [dif_pos (by simp only [Int.toNat_natCast]; omega)]
    simp
  rw [e, e2, Bool.eq_iff_iff]
  simp only [beq_iff_eq, List.cons.injEq, and_true]
  constructor
  · intro h; rw [h]
  · intro h; exact UInt8.toNat_inj.1 (by omega)
def fitsB (p s : ByteArray) : Bool := if p.size ≤ s.size then (if (s.extract 0 p.size).toList = p.toList then (decide (s.size = p.size) || (bt s (p.size : Int) == 47 || (decide (1 ≤ p.size) && bt p ((p.size - 1 : Nat) : Int) == 47))) else false) else false
theorem ext_list (s : ByteArray) (i j : Nat) : (s.extract i j).toList = (s.data.toList.drop i).take (j - i) := by
  have h : s = HP.B s.data.toList := (HP.B_of s).symm
  rw [show s.extract i j = (HP.B s.data.toList).extract i j from by rw [← h], HP.B_extract, HP.B_toList]
theorem cutP_is (p s : ByteArray) : strings_CutPrefix.f s p = some (if p.size ≤ s.size ∧ (s.extract 0 p.size).toList = p.toList then (s.extract p.size s.size, true) else (s, false)) := by
  have hs : s.data.toList.length = s.size := by simp
  have hp : p.data.toList.length = p.size := by simp
  have hx : Lib.hasPrefix s.data.toList p.data.toList = true ↔ (p.size ≤ s.size ∧ (s.extract 0 p.size).toList = p.toList) := by
    unfold Lib.hasPrefix
    rw [List.isPrefixOf_iff_prefix, List.prefix_iff_eq_take, ext_list, Lib.toList_data, hp]
    simp only [List.drop_zero, Nat.sub_zero]
    constructor
    · intro h
      refine ⟨?_, h.symm⟩
      have := congrArg List.length h
      rw [List.length_take, hs, hp] at this
      omega
    · intro h
      exact h.2.symm
  unfold strings_CutPrefix.f
  by_cases h : p.size ≤ s.size ∧ (s.extract 0 p.size).toList = p.toList
  · rw [if_pos h, hx.2 h]
    unfold Lib.trimPrefix
    rw [if_pos (hx.2 h)]
    have he : s.extract p.size s.size = HP.B (s.data.toList.drop p.data.toList.length) := by
      have h0 : s = HP.B s.data.toList := (HP.B_of s).symm
      rw [show s.extract p.size s.size = (HP.B s.data.toList).extract p.size s.size from by rw [← h0], HP.B_extract, hp, List.take_of_length_le (by rw [List.length_drop, hs]; omega)]
    rw [he]
    rfl
  · have hf : Lib.hasPrefix s.data.toList p.data.toList = false := by
      cases hb : Lib.hasPrefix s.data.toList p.data.toList
      · rfl
      · exact absurd (hx.1 hb) h
    rw [if_neg h, hf]
    unfold Lib.trimPrefix
    rw [hf]
    simp
theorem fits_is (p s : ByteArray) (hs : s.size ≤ 4611686018427387904) : plane_fits.f p s = some (fitsB p s) := by
  unfold plane_fits.f fitsB
  rw [cutP_is]
  by_cases h1 : p.size ≤ s.size
  · rw [if_pos h1]
    by_cases h2 : (s.extract 0 p.size).toList = p.toList
    · have e : (if p.size ≤ s.size ∧ (s.extract 0 p.size).toList = p.toList then (s.extract p.size s.size, true) else (s, false)) = (s.extract p.size s.size, true) := if_pos ⟨h1, h2⟩
      rw [e, if_pos h2]
      simp only [Option.bind_some, if_true]
      have hsz : (s.extract p.size s.size).size = s.size - p.size := by rw [ByteArray.size_extract]; omega
      by_cases h3 : s.size = p.size
      · rw [if_pos ((toList_nil _).2 (by omega))]
        simp [h3]
      · rw [if_neg (fun h => h3 (by have := (toList_nil _).1 h; omega))]
        unfold strings_HasSuffix.f stringslite_HasSuffix.f
        have hsl : (⟨#[47]⟩ : ByteArray).size = 1 := rfl
        have hw : wrap64 ((p.size : Int) - ((⟨#[47]⟩ : ByteArray).size : Int)) = (p.size : Int) - 1 := by rw [hsl]; unfold wrap64; omega
        by_cases h4 : 1 ≤ p.size
        · rw [if_pos (by rw [hsl]; omega), hw, if_pos (by omega), if_pos (by omega)]
          have ht : ((p.size : Int) - 1).toNat = p.size - 1 := by omega
          rw [ht]
          simp only [Option.bind_some]
          have hl := last_is p h4 47
          rw [show (⟨#[47]⟩ : ByteArray).toList = [47] from by rw [ByteArray.toList_eq], hl, bt_extract]
          rw [if_pos (show 0 < ((s.extract p.size s.size).size : Int) by omega)]
          simp only [h3, h4, decide_false, decide_true, Bool.false_or, Bool.true_and]
          rw [show ((47 : UInt8).toNat : Int) = 47 from rfl]
          cases bt p ((p.size - 1 : Nat) : Int) == 47 <;> simp
        · rw [if_neg (by rw [hsl]; omega)]
          simp only [Option.bind_some, Bool.false_eq_true, if_false]
          rw [if_pos (show 0 < ((s.extract p.size s.size).size : Int) by omega), bt_extract]
          simp [h3, h4]
    · have e : (if p.size ≤ s.size ∧ (s.extract 0 p.size).toList = p.toList then (s.extract p.size s.size, true) else (s, false)) = (s, false) := if_neg (fun h => h2 h.2)
      rw [e, if_neg h2]
      simp
  · have e : (if p.size ≤ s.size ∧ (s.extract 0 p.size).toList = p.toList then (s.extract p.size s.size, true) else (s, false)) = (s, false) := if_neg (fun h => h1 h.1)
    rw [e, if_neg h1]
    simp
end Go.Proofs.YtabkdmfnafeaeaaDoor.PP
end
section
namespace Go.Proofs.YtabkdmfnafeaeaaDoor.PP
open Go.RowKit Go.Proofs.YtabkdmfnafeaeaaDoor.S Go.Proofs.YtabkdmfnafeaeaaDoorW.PrintWords Go.Proofs.YtabkdmfnafeaeaaDoorW.PrintLast Go.Proofs.YtabkdmfnafeaeaaDoorW.PrintMore
abbrev Found := ByteArray × ByteArray × ByteArray × Bool
def nofound : Found := (⟨#[]⟩, ⟨#[]⟩, ⟨#[]⟩, false)
def may (h s : ByteArray) (r : S93) : Bool := r.f0.toList == h.toList && fitsB r.f1 s
def findStep (h s : ByteArray) (a : Found) (r : S93) : Found := if may h s r = true then (if a.2.2.2 = true then (if (r.f1.size : Int) > (a.2.1.size : Int) then (r.f0, r.f1, r.f2, true) else a) else (r.f0, r.f1, r.f2, true)) else a
def findF (h s : ByteArray) (l : List S93) : Found := l.foldl (findStep h s) nofound
theorem rd_drop {l : List S93} {i : Nat} (h : i < l.length) : l.drop i = rd_T93 l (i : Int) :: l.drop (i + 1) := by
  rw [List.drop_eq_getElem_cons h]
  simp [rd_T93, List.getD_eq_getElem?_getD, List.getElem?_eq_getElem h]
theorem Find_loop (h s : ByteArray) (hs : s.size ≤ 4611686018427387904) (l : List S93) (hl : l.length ≤ 9223372036854775806) : ∀ (d i : Nat), i + d = l.length → ∀ a : Found,
    Ev (fun k => plane_Find.l0 k h s a.2.2.2 l (l.length : Int) (i : Int) a.1 a.2.1 a.2.2.1) ((l.drop i).foldl (findStep h s) a) := by
  intro d
  induction d with
  | zero =>
    intro i hi a
    refine Ev.step (fun k => by simp only [plane_Find.l0]; rfl) (Ev.neg (by omega) (Ev.ret ?_))
    rw [List.drop_eq_nil_of_le (by omega)]
    rfl
  | succ d ih =>
    intro i hi a
    have hlt : i < l.length := by omega
    have hw : wrap64 ((i : Int) + 1) = ((i + 1 : Nat) : Int) := by unfold wrap64; omega
    rw [rd_drop hlt, List.foldl_cons]
    generalize hr : rd_T93 l (i : Int) = r
    refine Ev.step (fun k => by simp only [plane_Find.l0]; rw [hr]) (Ev.pos (by omega) (Ev.pos (by omega) (Ev.pos (by omega) ?_)))
    rw [hw]
    have hn := ih (i + 1) (by omega) (findStep h s a r)
    by_cases h1 : r.f0.toList = h.toList
    · refine Ev.pos h1 (Ev.call (fits_is r.f1 s hs) ?_)
      by_cases h2 : fitsB r.f1 s = true
      · have hm : may h s r = true := by unfold may; rw [h1, h2]; simp
        refine Ev.pos h2 ?_
        by_cases h3 : a.2.2.2 = true
        · refine Ev.pos h3 ?_
          by_cases h4 : (r.f1.size : Int) > (a.2.1.size : Int)
          · have e : findStep h s a r = (r.f0, r.f1, r.f2, true) := by unfold findStep; rw [if_pos hm, if_pos h3, if_pos h4]
            rw [e] at hn ⊢
            exact Ev.pos h4 hn
          · have e : findStep h s a r = a := by unfold findStep; rw [if_pos hm, if_pos h3, if_neg h4]
            rw [e] at hn ⊢
            exact Ev.neg h4 hn
        · have e : findStep h s a r = (r.f0, r.f1, r.f2, true) := by unfold findStep; rw [if_pos hm, if_neg h3]
          rw [e] at hn ⊢
          exact Ev.neg h3 hn
      · have hm : may h s r = false := by unfold may; simp [h2]
        have e : findStep h s a r = a := by unfold findStep; rw [if_neg (by simp [hm])]
        rw [e] at hn ⊢
        exact Ev.neg h2 hn
    · have hm : may h s r = false := by unfold may; simp [h1]
      have e : findStep h s a r = a := by unfold findStep; rw [if_neg (by simp [hm])]
      rw [e] at hn ⊢
      exact Ev.neg h1 hn
theorem Find_is (v : Int) (l : List S93) (ps : List S67) (h s : ByteArray) (hs : s.size ≤ 4611686018427387904) (hl : l.length ≤ 9223372036854775806) : Ev (fun k => plane_Find.f k v l ps h s) (findF h s l) := by
  unfold plane_Find.f
  exact Find_loop h s hs l hl l.length 0 (by omega) nofound
end Go.Proofs.YtabkdmfnafeaeaaDoor.PP
end
section
namespace Go.Proofs.YtabkdmfnafeaeaaDoor.PP
open Go.RowKit Go.Proofs.YtabkdmfnafeaeaaDoor.S Go.Proofs.YtabkdmfnafeaeaaDoorW.PrintWords Go.Proofs.YtabkdmfnafeaeaaDoorW.PrintLast Go.Proofs.YtabkdmfnafeaeaaDoorW.PrintMore
theorem rd53_drop {l : List S67} {i : Nat} (h : i < l.length) : l.drop i = rd_T67 l (i : Int) :: l.drop (i + 1) := by
  rw [List.drop_eq_getElem_cons h]
  simp [rd_T67, List.getD_eq_getElem?_getD, List.getElem?_eq_getElem h]
theorem short_loop (v : Int) (l : List S93) (ps : List S67) : ∀ (m : Nat) (n : Nat) (i : Nat), 202 ≤ m + n → n ≤ 100000 → i ≤ n → i ≤ ps.length →
    ∃ b, Ev (fun k => tollgatelaw10_short.l0 k (n : Int) (i : Int) v l ps) b ∧ (b = true → l.length ≤ 200 ∧ ps.length ≤ 200 ∧ ∀ p ∈ ps.drop i, p.f1.length ≤ 200) := by
  intro m
  induction m with
  | zero =>
    intro n i hm _ hi hl
    refine ⟨false, ?_, by simp⟩
    by_cases h1 : i < ps.length
    · exact Ev.step (fun k => by simp only [tollgatelaw10_short.l0]; rfl) (Ev.pos (by omega) (Ev.neg (by omega) (Ev.ret rfl)))
    · exact Ev.step (fun k => by simp only [tollgatelaw10_short.l0]; rfl) (Ev.neg (by omega) (Ev.neg (by omega) (Ev.ret rfl)))
  | succ m ih =>
    intro n i hm hn hi hl
    by_cases h1 : i < ps.length
    · by_cases h2 : n ≤ 200
      · generalize ht : (rd_T67 ps (i : Int)) = p
        have hw : ∃ n' : Nat, wrap64 ((n : Int) + (1 + mn ((p.f1.length : Nat) : Int) 1000)) = (n' : Int) ∧ n + 1 ≤ n' ∧ n' ≤ n + 1001 ∧ (n' ≤ 201 → p.f1.length ≤ 200) := by
          unfold mn wrap64
          by_cases h3 : (1000 : Int) < p.f1.length
          · rw [if_pos h3]; exact ⟨n + 1001, by omega, by omega, by omega, by omega⟩
          · rw [if_neg h3]; exact ⟨n + 1 + p.f1.length, by omega, by omega, by omega, by omega⟩
        obtain ⟨n', e, a1, a2, a3⟩ := hw
        obtain ⟨b, hb, hq⟩ := ih n' (i + 1) (by omega) (by omega) (by omega) (by omega)
        refine ⟨b, Ev.step (fun k => by simp only [tollgatelaw10_short.l0]; rfl) (Ev.pos (by omega) (Ev.pos (by omega) (Ev.pos (by omega) ?_))), ?_⟩
        · rw [ht, e, show wrap64 ((i : Int) + 1) = ((i + 1 : Nat) : Int) by unfold wrap64; omega]
          exact hb
        · intro hbt
          obtain ⟨q1, q2, q3⟩ := hq hbt
          refine ⟨q1, q2, ?_⟩
          rw [rd53_drop h1, ht]
          intro x hx
          rcases List.mem_cons.1 hx with rfl | hx
          · by_cases h4 : n' ≤ 201
            · exact a3 h4
            · exfalso
              have : b = false := by
                have hb2 : Ev (fun k => tollgatelaw10_short.l0 k (n' : Int) ((i + 1 : Nat) : Int) v l ps) false := by
                  by_cases h5 : i + 1 < ps.length
                  · exact Ev.step (fun k => by simp only [tollgatelaw10_short.l0]; rfl) (Ev.pos (by omega) (Ev.neg (by omega) (Ev.ret rfl)))
                  · exact Ev.step (fun k => by simp only [tollgatelaw10_short.l0]; rfl) (Ev.neg (by omega) (Ev.neg (by omega) (Ev.ret rfl)))
                obtain ⟨K1, h6⟩ := hb
                obtain ⟨K2, h7⟩ := hb2
                have e1 := h6 (K1 + K2) (by omega)
                have e2 := h7 (K1 + K2) (by omega)
                exact Option.some.inj (e1.symm.trans e2)
              rw [this] at hbt
              cases hbt
          · exact q3 x hx
      · refine ⟨false, ?_, by simp⟩
        exact Ev.step (fun k => by simp only [tollgatelaw10_short.l0]; rfl) (Ev.pos (by omega) (Ev.neg (by omega) (Ev.ret rfl)))
    · by_cases h2 : n ≤ 200
      · refine ⟨decide ((l.length : Int) ≤ 200), ?_, ?_⟩
        · exact Ev.step (fun k => by simp only [tollgatelaw10_short.l0]; rfl) (Ev.neg (by omega) (Ev.pos (by omega) (Ev.ret rfl)))
        · intro h
          have := of_decide_eq_true h
          refine ⟨by omega, by omega, ?_⟩
          rw [List.drop_eq_nil_of_le (by omega)]
          simp
      · refine ⟨false, ?_, by simp⟩
        exact Ev.step (fun k => by simp only [tollgatelaw10_short.l0]; rfl) (Ev.neg (by omega) (Ev.neg (by omega) (Ev.ret rfl)))
theorem short_is (v : Int) (l : List S93) (ps : List S67) : ∃ b, Ev (fun k => tollgatelaw10_short.f k v l ps) b ∧ (b = true → l.length ≤ 200 ∧ ps.length ≤ 200 ∧ ∀ p ∈ ps, p.f1.length ≤ 200) := by
  obtain ⟨b, hb, hq⟩ := short_loop v l ps 202 0 0 (by omega) (by omega) (by omega) (by omega)
  exact ⟨b, by unfold tollgatelaw10_short.f; exact hb, by rw [List.drop_zero] at hq; exact hq⟩
end Go.Proofs.YtabkdmfnafeaeaaDoor.PP
end
section
namespace Go.Proofs.YtabkdmfnafeaeaaDoor.FL
open Ieee
def cutE (n d : Nat) : Nat := Toward.even.cut false n d
theorem cut_eq (n d : Nat) : cutE n d = n / 2 ^ min d (n.log2 + 2) + (decide (2 ^ min d (n.log2 + 2) < 2 * (n % 2 ^ min d (n.log2 + 2))) || (2 ^ min d (n.log2 + 2) == 2 * (n % 2 ^ min d (n.log2 + 2)) && n / 2 ^ min d (n.log2 + 2) % 2 == 1)).toNat := by
  unfold cutE Toward.cut
  simp only [Nat.one_shiftLeft]
theorem lt_two_log (n : Nat) : n < 2 ^ (n.log2 + 1) := Nat.lt_log2_self
theorem two_log_le {n : Nat} (h : n ≠ 0) : 2 ^ n.log2 ≤ n := Nat.log2_self_le h
theorem cut_near (n d : Nat) : 2 * (cutE n d * 2 ^ d) ≤ 2 * n + 2 ^ d ∧ 2 * n ≤ 2 * (cutE n d * 2 ^ d) + 2 ^ d := by
  rw [cut_eq]
  by_cases h : d ≤ n.log2 + 2
  · rw [Nat.min_eq_left h]
    generalize hG : 2 ^ d = G
    have hG0 : 0 < G := by rw [← hG]; exact Nat.two_pow_pos _
    have hd := Nat.div_add_mod n G
    have hm := Nat.mod_lt n hG0
    generalize n / G = q at *
    generalize n % G = r at *
    have e : q * G = G * q := Nat.mul_comm _ _
    by_cases c : (decide (G < 2 * r) || (G == 2 * r && q % 2 == 1)) = true
    · rw [c]
      have : G ≤ 2 * r := by
        simp only [Bool.or_eq_true, decide_eq_true_eq, Bool.and_eq_true, beq_iff_eq] at c
        omega
      have e2 : (q + true.toNat) * G = G * q + G := by rw [Nat.add_mul, e]; simp
      omega
    · rw [Bool.not_eq_true] at c
      rw [c]
      have : 2 * r ≤ G := by
        simp only [Bool.or_eq_false_iff, decide_eq_false_iff_not] at c
        omega
      have e2 : (q + false.toNat) * G = G * q := by rw [← e]; simp
      omega
  · rw [Nat.min_eq_right (by omega)]
    have h1 := lt_two_log n
    have h2 : n < 2 ^ (n.log2 + 2) := Nat.lt_trans h1 (Nat.pow_lt_pow_right (by omega) (by omega))
    have h3 : 2 ^ (n.log2 + 2) = 2 * 2 ^ (n.log2 + 1) := by rw [show n.log2 + 2 = (n.log2 + 1) + 1 from rfl, Nat.pow_succ, Nat.mul_comm]
    have h4 : 2 ^ (n.log2 + 2) ≤ 2 ^ d := Nat.pow_le_pow_right (by omega) (by omega)
    rw [Nat.div_eq_of_lt h2, Nat.mod_eq_of_lt h2]
    have c : (decide (2 ^ (n.log2 + 2) < 2 * n) || (2 ^ (n.log2 + 2) == 2 * n && 0 % 2 == 1)) = false := by
      simp only [Bool.or_eq_false_iff, decide_eq_false_iff_not]
      refine ⟨by omega, ?_⟩
      have : (2 ^ (n.log2 + 2) == 2 * n) = false := beq_eq_false_iff_ne.2 (by omega)
      rw [this]
      rfl
    rw [c]
    simp
    omega
theorem cut_mono {n n' : Nat} (h : n ≤ n') (d : Nat) : cutE n d ≤ cutE n' d := by
  rcases Nat.lt_or_ge (cutE n' d) (cutE n d) with hlt | hge
  · exfalso
    obtain ⟨a1, _⟩ := cut_near n d
    obtain ⟨_, b2⟩ := cut_near n' d
    have hm : (cutE n' d + 1) * 2 ^ d ≤ cutE n d * 2 ^ d := Nat.mul_le_mul_right _ hlt
    rw [Nat.add_mul] at hm
    have : n = n' := by omega
    subst this
    omega
  · exact hge
theorem log2_shift {n : Nat} (h : n ≠ 0) (k : Nat) : (n * 2 ^ k).log2 = n.log2 + k := by
  have h1 : n * 2 ^ k ≠ 0 := Nat.mul_ne_zero h (Nat.ne_of_gt (Nat.two_pow_pos _))
  rw [Nat.log2_eq_iff h1]
  constructor
  · rw [Nat.pow_add]; exact Nat.mul_le_mul_right _ (two_log_le h)
  · rw [show n.log2 + k + 1 = (n.log2 + 1) + k by omega, Nat.pow_add]
    exact Nat.mul_lt_mul_of_pos_right (lt_two_log n) (Nat.two_pow_pos _)
theorem cut_scale (n d m : Nat) : cutE (n * 2 ^ m) (d + m) = cutE n d := by
  by_cases hn : n = 0
  · subst hn
    rw [Nat.zero_mul, cut_eq, cut_eq]
    simp
  · rw [cut_eq, cut_eq, log2_shift hn]
    rw [show min (d + m) (n.log2 + m + 2) = min d (n.log2 + 2) + m by omega, Nat.pow_add]
    have hp : 0 < 2 ^ m := Nat.two_pow_pos _
    generalize 2 ^ min d (n.log2 + 2) = G
    rw [Nat.mul_div_mul_right _ _ hp, Nat.mul_mod_mul_right]
    have e : 2 * (n % G * 2 ^ m) = (2 * (n % G)) * 2 ^ m := (Nat.mul_assoc _ _ _).symm
    rw [e]
    have c1 : decide (G * 2 ^ m < 2 * (n % G) * 2 ^ m) = decide (G < 2 * (n % G)) := by
      rw [decide_eq_decide]
      exact ⟨fun h => Nat.lt_of_mul_lt_mul_right h, fun h => Nat.mul_lt_mul_of_pos_right h hp⟩
    have c2 : (G * 2 ^ m == 2 * (n % G) * 2 ^ m) = (G == 2 * (n % G)) := by
      rw [Bool.eq_iff_iff, beq_iff_eq, beq_iff_eq]
      exact ⟨fun h => Nat.eq_of_mul_eq_mul_right hp h, fun h => congrArg (· * 2 ^ m) h⟩
    rw [c1, c2]
theorem cut_same {a d a' d' : Nat} (h : a * 2 ^ d' = a' * 2 ^ d) : cutE a d = cutE a' d' := by
  rw [← cut_scale a d d', ← cut_scale a' d' d, h, Nat.add_comm]
theorem cut_zero (n : Nat) : cutE n 0 = n := by
  have := cut_near n 0
  omega
def INF : Nat := 9218868437227405312
def near (n : Nat) (p : Int) : Nat := Ieee.double.nearest false n p
theorem near_zero (p : Int) : near 0 p = 0 := by
  unfold near Format.nearest Format.word
  simp
theorem near_eq {n : Nat} (hn : n ≠ 0) (p : Int) : near n p = min ((max (p + n.log2 - 52) (-1074) - -1074).toNat * 4503599627370496 + cutE (n * 2 ^ (p - max (p + n.log2 - 52) (-1074)).toNat) (max (p + n.log2 - 52) (-1074) - p).toNat) 9218868437227405312 := by
  have hB : Ieee.double.binade = 4503599627370496 := by decide
  have hI : Ieee.double.infRung = 9218868437227405312 := by decide
  have hL : Ieee.double.leastPlace = -1074 := by decide
  have hF : Ieee.double.fractionBits = 52 := rfl
  unfold near Format.nearest Format.word cutE
  rw [if_neg hn]
  simp only [Nat.shiftLeft_eq, hB, hI, hL, hF, Bool.false_eq_true, if_false]
  rfl
theorem near_scale (n k : Nat) (p : Int) : near (n * 2 ^ k) (p - k) = near n p := by
  by_cases hn : n = 0
  · subst hn; rw [Nat.zero_mul, near_zero, near_zero]
  · have h1 : n * 2 ^ k ≠ 0 := Nat.mul_ne_zero hn (Nat.ne_of_gt (Nat.two_pow_pos _))
    rw [near_eq h1, near_eq hn, log2_shift hn]
    have e : p - (k : Int) + ((n.log2 + k : Nat) : Int) - 52 = p + n.log2 - 52 := by omega
    rw [e]
    generalize max (p + (n.log2 : Int) - 52) (-1074) = L
    congr 2
    refine cut_same ?_
    rw [Nat.mul_assoc, Nat.mul_assoc, Nat.mul_assoc, ← Nat.pow_add, ← Nat.pow_add, ← Nat.pow_add]
    congr 2
    omega
def rnd (n : Nat) : Nat := near n (-1074)
theorem near_low (n j : Nat) {p : Int} (hp : p = -1074 + j) : near n p = rnd (n * 2 ^ j) := by
  unfold rnd
  rw [← near_scale n j p, hp]
  congr 1
  omega
theorem near_D {n : Nat} (hn : n ≠ 0) (d0 : Nat) : near n (-1074 - d0) = min ((max (n.log2 - 52) d0 - d0) * 4503599627370496 + cutE n (max (n.log2 - 52) d0)) 9218868437227405312 := by
  rw [near_eq hn]
  have e1 : max (-1074 - (d0 : Int) + (n.log2 : Int) - 52) (-1074) = -1074 - (d0 : Int) + ((max (n.log2 - 52) d0 : Nat) : Int) := by omega
  rw [e1]
  generalize hD : max (n.log2 - 52) d0 = D
  have hd : d0 ≤ D := by omega
  have e2 : (-1074 - (d0 : Int) - (-1074 - (d0 : Int) + (D : Int))).toNat = 0 := by omega
  have e3 : (-1074 - (d0 : Int) + (D : Int) - (-1074 - (d0 : Int))).toNat = D := by omega
  have e4 : (-1074 - (d0 : Int) + (D : Int) - -1074).toNat = D - d0 := by omega
  rw [e2, e3, e4, Nat.pow_zero, Nat.mul_one]
theorem near_mono {n n' : Nat} (h : n ≤ n') (d0 : Nat) : near n (-1074 - d0) ≤ near n' (-1074 - d0) := by
  by_cases hn : n = 0
  · subst hn; rw [near_zero]; exact Nat.zero_le _
  · have hn' : n' ≠ 0 := by omega
    rw [near_D hn, near_D hn']
    have hl : n.log2 ≤ n'.log2 := by
      rw [Nat.le_log2 hn']
      exact Nat.le_trans (two_log_le hn) h
    have hD : max (n.log2 - 52) d0 ≤ max (n'.log2 - 52) d0 := by omega
    have hd0 : d0 ≤ max (n.log2 - 52) d0 := by omega
    have hL : n.log2 ≤ max (n.log2 - 52) d0 + 52 := by omega
    have hL' : max (n.log2 - 52) d0 < max (n'.log2 - 52) d0 → n'.log2 = max (n'.log2 - 52) d0 + 52 := by omega
    generalize max (n.log2 - 52) d0 = D at *
    generalize max (n'.log2 - 52) d0 = D' at *
    suffices hs : (D - d0) * 4503599627370496 + cutE n D ≤ (D' - d0) * 4503599627370496 + cutE n' D' from Nat.le_min.2 ⟨Nat.le_trans (Nat.min_le_left _ _) hs, Nat.min_le_right _ _⟩
    rcases Nat.eq_or_lt_of_le hD with e | hlt
    · subst e
      have := cut_mono h D
      omega
    · have q1 : cutE n D ≤ 9007199254740992 := by
        obtain ⟨a1, _⟩ := cut_near n D
        have h1 := lt_two_log n
        have h2 : 2 ^ (n.log2 + 1) ≤ 2 ^ (D + 53) := Nat.pow_le_pow_right (by omega) (by omega)
        have h3 : (2 : Nat) ^ (D + 53) = 2 ^ D * 9007199254740992 := Nat.pow_add 2 D 53
        rw [h3] at h2
        have h1 := Nat.lt_of_lt_of_le h1 h2
        clear h2 h3
        have hG : 0 < 2 ^ D := Nat.two_pow_pos _
        generalize 2 ^ D = G at *
        rcases Nat.lt_or_ge 9007199254740992 (cutE n D) with hq | hq
        · exfalso
          have : (9007199254740992 + 1) * G ≤ cutE n D * G := Nat.mul_le_mul_right _ hq
          have e : (9007199254740992 + 1) * G = G * 9007199254740992 + G := by omega
          omega
        · exact hq
      have q2 : 4503599627370496 ≤ cutE n' D' := by
        obtain ⟨_, b2⟩ := cut_near n' D'
        have h1 := two_log_le hn'
        have h3 : (2 : Nat) ^ (D' + 52) = 2 ^ D' * 4503599627370496 := Nat.pow_add 2 D' 52
        rw [hL' hlt, h3] at h1
        clear h3
        have hG : 0 < 2 ^ D' := Nat.two_pow_pos _
        generalize 2 ^ D' = G at *
        rcases Nat.lt_or_ge (cutE n' D') 4503599627370496 with hq | hq
        · exfalso
          have : (cutE n' D' + 1) * G ≤ 4503599627370496 * G := Nat.mul_le_mul_right _ hq
          rw [Nat.add_mul] at this
          have e : 4503599627370496 * G = G * 4503599627370496 := Nat.mul_comm _ _
          omega
        · exact hq
      omega
theorem near_le (n : Nat) (p : Int) : near n p ≤ INF := by
  by_cases hn : n = 0
  · subst hn; rw [near_zero]; exact Nat.zero_le _
  · rw [near_eq hn]; exact Nat.min_le_right _ _
theorem rnd_mono {n n' : Nat} (h : n ≤ n') : rnd n ≤ rnd n' := by
  have := near_mono h 0
  exact this
theorem rnd_le (n : Nat) : rnd n ≤ INF := near_le _ _
def val (b : Nat) : Nat := if b < 4503599627370496 then b else (4503599627370496 + b % 4503599627370496) * 2 ^ (b / 4503599627370496 - 1)
theorem log_norm {m : Nat} (h1 : 4503599627370496 ≤ m) (h2 : m < 9007199254740992) : m.log2 = 52 := by
  rw [Nat.log2_eq_iff (by omega)]
  exact ⟨h1, h2⟩
theorem rnd_val {b : Nat} (h : b < INF) : rnd (val b) = b := by
  unfold INF at h
  unfold val
  split
  · rename_i hb
    by_cases h0 : b = 0
    · subst h0; exact near_zero _
    · show near b (-1074 - ((0 : Nat) : Int)) = b
      rw [near_D h0]
      have hl : b.log2 ≤ 52 := by
        have : b.log2 < 52 := by
          rw [Nat.log2_lt h0]
          exact hb
        omega
      have : max (b.log2 - 52) 0 = 0 := by omega
      rw [this, cut_zero]
      omega
  · rename_i hb
    have hm := Nat.mod_lt b (show 0 < 4503599627370496 by decide)
    have hd := Nat.div_add_mod b 4503599627370496
    generalize b / 4503599627370496 = q at *
    generalize b % 4503599627370496 = r at *
    rw [← near_low (4503599627370496 + r) (q - 1) rfl, near_eq (by omega), log_norm (by omega) (by omega)]
    have e1 : max (-1074 + ((q - 1 : Nat) : Int) + ((52 : Nat) : Int) - 52) (-1074) = -1074 + ((q - 1 : Nat) : Int) := by omega
    rw [e1]
    have e2 : (-1074 + ((q - 1 : Nat) : Int) - (-1074 + ((q - 1 : Nat) : Int))).toNat = 0 := by omega
    have e3 : (-1074 + ((q - 1 : Nat) : Int) - -1074).toNat = q - 1 := by omega
    rw [e2, e3, Nat.pow_zero, Nat.mul_one, cut_zero]
    omega
theorem val_lt {a b : Nat} (ha : a < INF) (h : val a < val b) (hb : b < INF) : a < b := by
  have h1 := rnd_mono (Nat.le_of_lt h)
  rw [rnd_val ha, rnd_val hb] at h1
  rcases Nat.eq_or_lt_of_le h1 with e | hlt
  · subst e; omega
  · exact hlt
theorem val_inj {a b : Nat} (ha : a < INF) (hb : b < INF) (h : val a = val b) : a = b := by
  rw [← rnd_val ha, ← rnd_val hb, h]
theorem val_mono {a b : Nat} (ha : a < INF) (hb : b < INF) (h : a ≤ b) : val a ≤ val b := by
  rcases Nat.lt_or_ge (val b) (val a) with hlt | hge
  · have := val_lt hb hlt ha; omega
  · exact hge
theorem val_lt_iff {a b : Nat} (ha : a < INF) (hb : b < INF) : val a < val b ↔ a < b := by
  constructor
  · intro h; exact val_lt ha h hb
  · intro h
    have := val_mono ha hb (Nat.le_of_lt h)
    rcases Nat.eq_or_lt_of_le this with e | hlt
    · have := val_inj ha hb e; omega
    · exact hlt
theorem val_zero : val 0 = 0 := rfl
theorem read_fin {b : Nat} (h : b < INF) : ∃ (m j : Nat), Ieee.double.read b = .number false m (-1074 + j) ∧ val b = m * 2 ^ j := by
  unfold INF at h
  have hs : Ieee.double.signWeight = 9223372036854775808 := rfl
  have hB : Ieee.double.binade = 4503599627370496 := rfl
  have hI : Ieee.double.infRung = 9218868437227405312 := rfl
  have hL : Ieee.double.leastPlace = -1074 := rfl
  unfold Format.read
  simp only [hs, hB, hI, hL]
  have e1 : b / 9223372036854775808 = 0 := Nat.div_eq_of_lt (by omega)
  have e2 : b % 9223372036854775808 = b := Nat.mod_eq_of_lt (by omega)
  rw [e1, e2]
  by_cases hb : b < 4503599627370496
  · rw [if_pos hb]
    exact ⟨b, 0, rfl, by unfold val; rw [if_pos hb]; simp⟩
  · rw [if_neg hb, if_pos h]
    exact ⟨_, _, rfl, by unfold val; rw [if_neg hb]⟩
theorem read_inf : Ieee.double.read INF = .infinity false := rfl
theorem read_neg0 : Ieee.double.read 9223372036854775808 = .number true 0 (-1074) := rfl
theorem signed_false (m u : Nat) : signed false m u = ((m * 2 ^ u : Nat) : Int) := by
  unfold signed
  simp [Nat.shiftLeft_eq]
theorem at_base (m i : Nat) (base : Int) (hb : base ≤ -1074 + i) (h0 : -1074 ≤ base) : m * 2 ^ i = (m * 2 ^ ((-1074 + (i : Int)) - base).toNat) * 2 ^ (base + 1074).toNat := by
  rw [Nat.mul_assoc, ← Nat.pow_add]
  congr 2
  omega
theorem order_fin {a b : Nat} (ha : a < INF) (hb : b < INF) : Ieee.double.order a b = some (compare a b) := by
  obtain ⟨m, i, hra, hva⟩ := read_fin ha
  obtain ⟨n, j, hrb, hvb⟩ := read_fin hb
  unfold Format.order
  rw [hra, hrb]
  simp only [Datum.order, signed_false]
  have hbase : min (-1074 + (i : Int)) (-1074 + (j : Int)) ≤ -1074 + i ∧ min (-1074 + (i : Int)) (-1074 + (j : Int)) ≤ -1074 + j ∧ -1074 ≤ min (-1074 + (i : Int)) (-1074 + (j : Int)) := by omega
  generalize min (-1074 + (i : Int)) (-1074 + (j : Int)) = base at *
  have e1 := at_base m i base hbase.1 hbase.2.2
  have e2 := at_base n j base hbase.2.1 hbase.2.2
  rw [← hva] at e1
  rw [← hvb] at e2
  generalize m * 2 ^ ((-1074 + (i : Int)) - base).toNat = x at *
  generalize n * 2 ^ ((-1074 + (j : Int)) - base).toNat = y at *
  have hp : 0 < 2 ^ (base + 1074).toNat := Nat.two_pow_pos _
  generalize 2 ^ (base + 1074).toNat = p at *
  have hlt : a < b ↔ x < y := by
    rw [← val_lt_iff ha hb, e1, e2]
    exact ⟨fun h => Nat.lt_of_mul_lt_mul_right h, fun h => Nat.mul_lt_mul_of_pos_right h hp⟩
  have hgt : b < a ↔ y < x := by
    rw [← val_lt_iff hb ha, e1, e2]
    exact ⟨fun h => Nat.lt_of_mul_lt_mul_right h, fun h => Nat.mul_lt_mul_of_pos_right h hp⟩
  congr 1
  rcases Nat.lt_trichotomy a b with h | h | h
  · rw [Nat.compare_eq_lt.2 h, Int.compare_eq_lt.2 (by have := hlt.1 h; omega)]
  · have : x = y := by omega
    rw [Nat.compare_eq_eq.2 h, Int.compare_eq_eq.2 (by omega)]
  · rw [Nat.compare_eq_gt.2 h, Int.compare_eq_gt.2 (by have := hgt.1 h; omega)]
theorem order_nn {a b : Nat} (ha : a ≤ INF) (hb : b ≤ INF) : Ieee.double.order a b = some (compare a b) := by
  by_cases h1 : a < INF
  · by_cases h2 : b < INF
    · exact order_fin h1 h2
    · obtain rfl : b = INF := by omega
      obtain ⟨m, i, hra, _⟩ := read_fin h1
      unfold Format.order
      rw [hra, read_inf, Nat.compare_eq_lt.2 h1]
      rfl
  · obtain rfl : a = INF := by omega
    by_cases h2 : b < INF
    · obtain ⟨m, i, hra, _⟩ := read_fin h2
      unfold Format.order
      rw [hra, read_inf, Nat.compare_eq_gt.2 h2]
      rfl
    · obtain rfl : b = INF := by omega
      rw [Nat.compare_eq_eq.2 rfl]
      rfl
theorem add_fin {a b : Nat} (ha : a < INF) (hb : b < INF) : Ieee.double.add a b = some (rnd (val a + val b)) := by
  obtain ⟨m, i, hra, hva⟩ := read_fin ha
  obtain ⟨n, j, hrb, hvb⟩ := read_fin hb
  unfold Format.add
  rw [hra, hrb]
  simp only [Datum.sum, signed_false, Option.map_some]
  have hbase : min (-1074 + (i : Int)) (-1074 + (j : Int)) ≤ -1074 + i ∧ min (-1074 + (i : Int)) (-1074 + (j : Int)) ≤ -1074 + j ∧ -1074 ≤ min (-1074 + (i : Int)) (-1074 + (j : Int)) := by omega
  generalize min (-1074 + (i : Int)) (-1074 + (j : Int)) = base at *
  have e1 := at_base m i base hbase.1 hbase.2.2
  have e2 := at_base n j base hbase.2.1 hbase.2.2
  rw [← hva] at e1
  rw [← hvb] at e2
  generalize m * 2 ^ ((-1074 + (i : Int)) - base).toNat = x at *
  generalize n * 2 ^ ((-1074 + (j : Int)) - base).toNat = y at *
  have hs : (if (x : Int) + (y : Int) = 0 then (false && false) else decide ((x : Int) + (y : Int) < 0)) = false := by
    split
    · rfl
    · exact decide_eq_false (by omega)
  have hn : ((x : Int) + (y : Int)).natAbs = x + y := by omega
  rw [hs, hn]
  congr 1
  show near (x + y) base = _
  rw [near_low (x + y) (base + 1074).toNat (by omega), e1, e2, Nat.add_mul]
theorem add_inf_l {b : Nat} (hb : b ≤ INF) : Ieee.double.add INF b = some INF := by
  by_cases h : b < INF
  · obtain ⟨m, i, hra, _⟩ := read_fin h
    unfold Format.add
    rw [hra, read_inf]
    rfl
  · obtain rfl : b = INF := by omega
    rfl
theorem add_inf_r {a : Nat} (ha : a ≤ INF) : Ieee.double.add a INF = some INF := by
  by_cases h : a < INF
  · obtain ⟨m, i, hra, _⟩ := read_fin h
    unfold Format.add
    rw [hra, read_inf]
    rfl
  · obtain rfl : a = INF := by omega
    rfl
def rnd2 (n : Nat) : Nat := near n (-2148)
theorem rnd2_mono {n n' : Nat} (h : n ≤ n') : rnd2 n ≤ rnd2 n' := near_mono h 1074
theorem mul_fin {a b : Nat} (ha : a < INF) (hb : b < INF) : Ieee.double.mul a b = some (rnd2 (val a * val b)) := by
  obtain ⟨m, i, hra, hva⟩ := read_fin ha
  obtain ⟨n, j, hrb, hvb⟩ := read_fin hb
  unfold Format.mul
  rw [hra, hrb]
  simp only [Datum.product, Option.map_some]
  congr 1
  show near (m * n) (-1074 + (i : Int) + (-1074 + (j : Int))) = _
  unfold rnd2
  rw [← near_scale (m * n) (i + j), hva, hvb]
  congr 1
  · rw [Nat.pow_add]; ac_rfl
  · omega
theorem mul_inf_l {b : Nat} (hb : b < INF) (h0 : 0 < b) : Ieee.double.mul INF b = some INF := by
  obtain ⟨m, i, hra, hva⟩ := read_fin hb
  have hm : m ≠ 0 := by
    intro h
    subst h
    rw [Nat.zero_mul] at hva
    have := val_inj hb (show 0 < INF by decide) hva
    omega
  unfold Format.mul
  rw [hra, read_inf]
  simp only [Datum.product, hm, if_false]
  rfl
theorem mul_neg0 {b : Nat} (hb : b < INF) : Ieee.double.mul 9223372036854775808 b = some 9223372036854775808 := by
  obtain ⟨m, i, hra, hva⟩ := read_fin hb
  unfold Format.mul
  rw [hra, read_neg0]
  simp only [Datum.product, Nat.zero_mul]
  rfl
theorem order_neg0 {b : Nat} (hb : b ≤ INF) : Ieee.double.order 9223372036854775808 b = Ieee.double.order 0 b := by
  by_cases h : b < INF
  · obtain ⟨m, i, hra, _⟩ := read_fin h
    unfold Format.order
    rw [hra, read_neg0, show Ieee.double.read 0 = .number false 0 (-1074) from rfl]
    simp only [Datum.order, signed]
    simp
  · obtain rfl : b = INF := by omega
    rfl
end Go.Proofs.YtabkdmfnafeaeaaDoor.FL
end
section
namespace Go.Proofs.YtabkdmfnafeaeaaDoor.FL
open Ieee
def NEG0 : Nat := 9223372036854775808
theorem read_neg {w : Nat} (h1 : 9223372036854775808 ≤ w) (h2 : w < 18446744073709551616) : (∃ m e, Ieee.double.read w = .number true m e ∧ (m = 0 → w = 9223372036854775808)) ∨ Ieee.double.read w = .infinity true ∨ ∃ fr, Ieee.double.read w = .nan true fr := by
  have hs : Ieee.double.signWeight = 9223372036854775808 := rfl
  have hB : Ieee.double.binade = 4503599627370496 := rfl
  have hI : Ieee.double.infRung = 9218868437227405312 := rfl
  unfold Format.read
  simp only [hs, hB, hI]
  have e1 : w / 9223372036854775808 = 1 := by omega
  have e2 : w % 9223372036854775808 = w - 9223372036854775808 := by omega
  rw [e1, e2]
  by_cases hb : w - 9223372036854775808 < 4503599627370496
  · rw [if_pos hb]
    exact Or.inl ⟨_, _, rfl, fun h => by omega⟩
  · rw [if_neg hb]
    by_cases hc : w - 9223372036854775808 < 9218868437227405312
    · rw [if_pos hc]
      exact Or.inl ⟨_, _, rfl, fun h => by omega⟩
    · rw [if_neg hc]
      by_cases hd : w - 9223372036854775808 = 9218868437227405312
      · rw [if_pos hd]; exact Or.inr (Or.inl rfl)
      · rw [if_neg hd]; exact Or.inr (Or.inr ⟨_, rfl⟩)
theorem read_nan {w : Nat} (h1 : INF < w) (h2 : w < 9223372036854775808) : ∃ fr, Ieee.double.read w = .nan false fr := by
  unfold INF at h1
  have hs : Ieee.double.signWeight = 9223372036854775808 := rfl
  have hB : Ieee.double.binade = 4503599627370496 := rfl
  have hI : Ieee.double.infRung = 9218868437227405312 := rfl
  unfold Format.read
  simp only [hs, hB, hI]
  have e1 : w / 9223372036854775808 = 0 := Nat.div_eq_of_lt h2
  have e2 : w % 9223372036854775808 = w := Nat.mod_eq_of_lt h2
  rw [e1, e2, if_neg (by omega), if_neg (by omega), if_neg (by omega)]
  exact ⟨_, rfl⟩
theorem signed_true (m u : Nat) : signed true m u = -((m * 2 ^ u : Nat) : Int) := by
  unfold signed
  simp [Nat.shiftLeft_eq]
theorem order_other {w b : Nat} (h1 : INF < w) (h2 : w < 18446744073709551616) (hb : b ≤ INF) : Ieee.double.order w b = none ∨ (Ieee.double.order w b = some .lt ∧ Ieee.double.order b w = some .gt) ∨ w = NEG0 := by
  by_cases hn : w < 9223372036854775808
  · obtain ⟨fr, hr⟩ := read_nan h1 hn
    unfold Format.order
    rw [hr]
    cases Ieee.double.read b <;> exact Or.inl rfl
  · rcases read_neg (by omega) h2 with ⟨m, e, hr, hm⟩ | hr | ⟨fr, hr⟩
    · by_cases h0 : m = 0
      · exact Or.inr (Or.inr (hm h0))
      · refine Or.inr (Or.inl ?_)
        unfold Format.order
        rw [hr]
        by_cases hf : b < INF
        · obtain ⟨n, j, hrb, _⟩ := read_fin hf
          rw [hrb]
          simp only [Datum.order, signed_false, signed_true]
          have hp : ∀ u, 0 < m * 2 ^ u := fun u => Nat.mul_pos (by omega) (Nat.two_pow_pos _)
          constructor
          · congr 1
            rw [Int.compare_eq_lt]
            have := hp (e - min e (-1074 + (j : Int))).toNat
            omega
          · congr 1
            rw [Int.compare_eq_gt]
            have := hp (e - min (-1074 + (j : Int)) e).toNat
            omega
        · obtain rfl : b = INF := by omega
          rw [read_inf]
          exact ⟨rfl, rfl⟩
    · refine Or.inr (Or.inl ?_)
      unfold Format.order
      rw [hr]
      by_cases hf : b < INF
      · obtain ⟨n, j, hrb, _⟩ := read_fin hf
        rw [hrb]
        exact ⟨rfl, rfl⟩
      · obtain rfl : b = INF := by omega
        rw [read_inf]
        exact ⟨rfl, rfl⟩
    · unfold Format.order
      rw [hr]
      cases Ieee.double.read b <;> exact Or.inl rfl
theorem zero_le : (0 : Nat) ≤ INF := Nat.zero_le _
theorem gt0 {w : Nat} (h : w < 18446744073709551616) : Ieee.double.order w 0 = some .gt ↔ 0 < w ∧ w ≤ INF := by
  by_cases h1 : w ≤ INF
  · rw [order_nn h1 zero_le]
    constructor
    · intro e
      injection e with e
      exact ⟨Nat.compare_eq_gt.1 e, h1⟩
    · intro e; rw [Nat.compare_eq_gt.2 e.1]
  · constructor
    · intro e
      rcases order_other (by omega) h zero_le with g | ⟨g, _⟩ | g
      · rw [g] at e; cases e
      · rw [g] at e; cases e
      · subst g
        rw [show NEG0 = 9223372036854775808 from rfl, order_neg0 zero_le, order_nn zero_le zero_le] at e
        cases e
    · intro e; omega
def eff (d : Nat) : Nat := if d ≤ INF then d else 0
theorem geq0 {w : Nat} (h : w < 18446744073709551616) : (Ieee.double.order w 0 = some .gt ∨ Ieee.double.order w 0 = some .eq) ↔ (w ≤ INF ∨ w = NEG0) := by
  by_cases h1 : w ≤ INF
  · rw [order_nn h1 zero_le]
    refine ⟨fun _ => Or.inl h1, fun _ => ?_⟩
    rcases Nat.eq_zero_or_pos w with e | e
    · subst e; exact Or.inr rfl
    · exact Or.inl (by rw [Nat.compare_eq_gt.2 e])
  · constructor
    · intro e
      rcases order_other (by omega) h zero_le with g | ⟨g, _⟩ | g
      · rw [g] at e; rcases e with e | e <;> cases e
      · rw [g] at e; rcases e with e | e <;> cases e
      · exact Or.inr g
    · rintro (e | e)
      · omega
      · subst e
        rw [show NEG0 = 9223372036854775808 from rfl, order_neg0 zero_le, order_nn zero_le zero_le]
        exact Or.inr rfl
theorem mul_mono {a a' b : Nat} (h : a ≤ a') (ha : a' < INF) : rnd2 (val a * val b) ≤ rnd2 (val a' * val b) := rnd2_mono (Nat.mul_le_mul_right _ (val_mono (by omega) ha h))
theorem add_mono {a a' b b' : Nat} (h : a ≤ a') (h' : b ≤ b') (ha : a' < INF) (hb : b' < INF) : rnd (val a + val b) ≤ rnd (val a' + val b') := rnd_mono (Nat.add_le_add (val_mono (by omega) ha h) (val_mono (by omega) hb h'))
theorem pow_split (q : Nat) : 4503599627370496 * 2 ^ q = 2 ^ (52 + q) := by rw [Nat.pow_add]
theorem val_pow (b : Nat) (hb : ¬ b < 4503599627370496) (hm : b % 4503599627370496 = 0) : ∃ e : Nat, e = 52 + (b / 4503599627370496 - 1) ∧ val b = 2 ^ e := by
  refine ⟨_, rfl, ?_⟩
  unfold val
  rw [if_neg hb, hm, Nat.add_zero, pow_split]
theorem val_one : ∃ e : Nat, e = 1074 ∧ val 4607182418800017408 = 2 ^ e := by
  obtain ⟨e, he, hv⟩ := val_pow 4607182418800017408 (by decide) (by decide)
  exact ⟨e, he.trans (by decide), hv⟩
theorem mul_one {a : Nat} (h : a < INF) : rnd2 (val a * val 4607182418800017408) = a := by
  obtain ⟨e, he, hv⟩ := val_one
  rw [hv]
  have := near_scale (val a) e (-1074)
  unfold rnd2
  rw [show (-2148 : Int) = -1074 - (e : Int) by omega, this]
  exact rnd_val h
end Go.Proofs.YtabkdmfnafeaeaaDoor.FL
end
section
namespace Go.Proofs.YtabkdmfnafeaeaaDoor.PP
open Go.RowKit Go.Proofs.YtabkdmfnafeaeaaDoor.S Go.Proofs.YtabkdmfnafeaeaaDoorW.PrintWords Go.Proofs.YtabkdmfnafeaeaaDoorW.PrintLast Go.Proofs.YtabkdmfnafeaeaaDoorW.PrintMore Go.Proofs.YtabkdmfnafeaeaaDoor.FL
abbrev ONE : Nat := 4607182418800017408
abbrev TH : Nat := 4562146422526312448
theorem one_lt : ONE < INF := by decide
theorem th_lt : TH < INF := by decide
def addS (s c : Nat) : Nat := if s < INF then (if c < INF then rnd (val s + val c) else INF) else INF
def prodS (d a : Nat) : Nat := if d < INF then rnd2 (val d * val a) else INF
theorem addS_is {s c : Nat} (hs : s ≤ INF) (hc : c ≤ INF) : faddOk s c = true ∧ fadd s c = addS s c := by
  unfold faddOk fadd addS
  by_cases h1 : s < INF
  · by_cases h2 : c < INF
    · rw [add_fin h1 h2, if_pos h1, if_pos h2]; exact ⟨rfl, rfl⟩
    · obtain rfl : c = INF := by omega
      rw [add_inf_r hs, if_pos h1, if_neg h2]; exact ⟨rfl, rfl⟩
  · obtain rfl : s = INF := by omega
    rw [add_inf_l hc, if_neg h1]; exact ⟨rfl, rfl⟩
theorem addS_le (s c : Nat) : addS s c ≤ INF := by
  unfold addS
  split
  · split
    · exact rnd_le _
    · exact Nat.le_refl _
  · exact Nat.le_refl _
theorem addS_mono {s s' c c' : Nat} (h : s ≤ s') (h' : c ≤ c') : addS s c ≤ addS s' c' := by
  by_cases h1 : s' < INF
  · by_cases h2 : c' < INF
    · unfold addS
      rw [if_pos (by omega), if_pos (by omega), if_pos h1, if_pos h2]
      exact add_mono h h' h1 h2
    · have : addS s' c' = INF := by unfold addS; rw [if_pos h1, if_neg h2]
      rw [this]; exact addS_le _ _
  · have : addS s' c' = INF := by unfold addS; rw [if_neg h1]
    rw [this]; exact addS_le _ _
theorem addS_zero {s : Nat} (hs : s ≤ INF) : addS s 0 = s := by
  unfold addS
  by_cases h : s < INF
  · rw [if_pos h, if_pos (by decide), val_zero, Nat.add_zero, rnd_val h]
  · rw [if_neg h]; omega
theorem zero_addS {s : Nat} (hs : s ≤ INF) : addS 0 s = s := by
  unfold addS
  by_cases h : s < INF
  · rw [if_pos (by decide), if_pos h, val_zero, Nat.zero_add, rnd_val h]
  · rw [if_pos (by decide), if_neg h]; omega
theorem le_addS_l {s : Nat} (c : Nat) (hs : s ≤ INF) : s ≤ addS s c := by
  have := addS_mono (Nat.le_refl s) (Nat.zero_le c)
  rw [addS_zero hs] at this
  exact this
theorem le_addS_r (s : Nat) {c : Nat} (hc : c ≤ INF) : c ≤ addS s c := by
  have := addS_mono (Nat.zero_le s) (Nat.le_refl c)
  rw [zero_addS hc] at this
  exact this
theorem prodS_is {d a : Nat} (hd : d ≤ INF) (ha : a < INF) (h0 : 0 < a) : fmulOk d a = true ∧ fmul d a = prodS d a := by
  unfold fmulOk fmul prodS
  by_cases h1 : d < INF
  · rw [mul_fin h1 ha, if_pos h1]; exact ⟨rfl, rfl⟩
  · obtain rfl : d = INF := by omega
    rw [mul_inf_l ha h0, if_neg h1]; exact ⟨rfl, rfl⟩
theorem prodS_le (d a : Nat) : prodS d a ≤ INF := by
  unfold prodS
  split
  · exact near_le _ _
  · exact Nat.le_refl _
theorem fgtr_is {w : Nat} (h : w < 18446744073709551616) : fgtr w 0 = decide (0 < w ∧ w ≤ INF) := by
  unfold fgtr
  rw [Bool.eq_iff_iff, beq_iff_eq, decide_eq_true_eq]
  exact gt0 h
theorem flss_is {a b : Nat} (ha : a ≤ INF) (hb : b ≤ INF) : flss a b = decide (a < b) := by
  unfold flss
  rw [Bool.eq_iff_iff, beq_iff_eq, decide_eq_true_eq, order_nn ha hb]
  constructor
  · intro h; injection h with h; exact Nat.compare_eq_lt.1 h
  · intro h; rw [Nat.compare_eq_lt.2 h]
theorem fgtr_nn {a b : Nat} (ha : a ≤ INF) (hb : b ≤ INF) : fgtr a b = decide (b < a) := by
  unfold fgtr
  rw [Bool.eq_iff_iff, beq_iff_eq, decide_eq_true_eq, order_nn ha hb]
  constructor
  · intro h; injection h with h; exact Nat.compare_eq_gt.1 h
  · intro h; rw [Nat.compare_eq_gt.2 h]
theorem isInf_is {s : Nat} (hs : s ≤ INF) : math_IsInf.f s 1 = some (decide (s = INF)) := by
  unfold math_IsInf.f
  rw [if_neg (by omega), if_neg (by omega), fgtr_nn hs (by decide)]
  congr 1
  rw [decide_eq_decide]
  unfold INF at *
  omega
def cntW (t w : Nat) : Nat := if 0 < w ∧ w < INF then rnd2 (val w * val t) else 0
theorem cntW_le (t w : Nat) : cntW t w ≤ INF := by
  unfold cntW
  split
  · exact near_le _ _
  · exact Nat.zero_le _
theorem counts_is {t w : Nat} (ht : t < INF) (hw : w < 18446744073709551616) : plane_counts.f w t = some (cntW t w) := by
  unfold plane_counts.f cntW
  rw [fgtr_is hw]
  by_cases h1 : 0 < w ∧ w ≤ INF
  · rw [decide_eq_true h1, if_pos rfl, isInf_is h1.2]
    by_cases h2 : w = INF
    · have e : ¬ (0 < w ∧ w < INF) := by omega
      rw [decide_eq_true h2, if_neg e]
      rfl
    · have e : 0 < w ∧ w < INF := by omega
      rw [decide_eq_false h2, if_pos e]
      unfold fmulOk fmul
      rw [mul_fin e.2 ht]
      rfl
  · have e : ¬ (0 < w ∧ w < INF) := by omega
    rw [decide_eq_false h1, if_neg e]
    rfl
def sumAt (t : Nat) (l : List S69) : Nat := l.foldl (fun s x => addS s (cntW t x.f1)) 0
theorem sumAt_le (t : Nat) (l : List S69) : sumAt t l ≤ INF := by
  unfold sumAt
  have : ∀ (l : List S69) (s : Nat), s ≤ INF → l.foldl (fun s x => addS s (cntW t x.f1)) s ≤ INF := by
    intro l
    induction l with
    | nil => intro s hs; exact hs
    | cons x l ih => intro s _; exact ih _ (addS_le _ _)
  exact this l 0 (Nat.zero_le _)
def sumsL (t : Nat) (l : List S69) : List Nat := (List.range l.length).map (fun i => sumAt t (l.take (i + 1)))
theorem rd44_drop {l : List S69} {i : Nat} (h : i < l.length) : l.drop i = rd_T69 l (i : Int) :: l.drop (i + 1) := by
  rw [List.drop_eq_getElem_cons h]
  simp [rd_T69, List.getD_eq_getElem?_getD, List.getElem?_eq_getElem h]
theorem rd44_take {l : List S69} {i : Nat} (h : i < l.length) : l.take (i + 1) = l.take i ++ [rd_T69 l (i : Int)] := by
  rw [List.take_add_one, List.getElem?_eq_getElem h]
  simp [rd_T69, List.getD_eq_getElem?_getD, List.getElem?_eq_getElem h]
theorem rd44_mem {l : List S69} {i : Nat} (h : i < l.length) : rd_T69 l (i : Int) ∈ l := List.mem_of_mem_drop (i := i) (by rw [rd44_drop h]; exact List.mem_cons_self)
theorem sumAt_step (t : Nat) {l : List S69} {i : Nat} (h : i < l.length) : sumAt t (l.take (i + 1)) = addS (sumAt t (l.take i)) (cntW t (rd_T69 l (i : Int)).f1) := by
  rw [rd44_take h]
  unfold sumAt
  rw [List.foldl_append]
  rfl
theorem sums_is {t : Nat} (ht : t < INF) (l : List S69) (hl : l.length ≤ 200) (hw : ∀ y ∈ l, y.f1 < 18446744073709551616) : Ev (fun k => plane_sums.f k l t) (sumsL t l) := by
  unfold plane_sums.f
  refine Ev.pos (by omega) (Ev.pos (by rw [Int.toNat_natCast]; omega) ?_)
  rw [Int.toNat_natCast]
  have loop : ∀ (d i : Nat), i + d = l.length → Ev (fun k => plane_sums.l0 k t ((sumsL t l).take i ++ List.replicate d 0) (sumAt t (l.take i)) l (l.length : Int) (i : Int)) (sumsL t l) := by
    intro d
    induction d with
    | zero =>
      intro i hi
      refine Ev.step (fun k => by simp only [plane_sums.l0]; rfl) (Ev.neg (by omega) (Ev.ret ?_))
      rw [List.take_of_length_le (by unfold sumsL; rw [List.length_map, List.length_range]; omega)]
      simp
    | succ d ih =>
      intro i hi
      have h1 : i < l.length := by omega
      obtain ⟨a1, a2⟩ := addS_is (sumAt_le t (l.take i)) (cntW_le t (rd_T69 l (i : Int)).f1)
      have hsl : (sumsL t l).length = l.length := by unfold sumsL; rw [List.length_map, List.length_range]
      have hlen : ((sumsL t l).take i ++ List.replicate (d + 1) 0).length = l.length := by
        rw [List.length_append, List.length_take, List.length_replicate]; omega
      refine Ev.step (fun k => by simp only [plane_sums.l0]; rfl) (Ev.pos (by omega) (Ev.pos (by omega) (Ev.pos (by omega) (Ev.call (counts_is ht (hw _ (rd44_mem h1))) (Ev.pos a1 ?_)))))
      refine Ev.pos (by rw [hlen]; omega) ?_
      have hw : wrap64 ((i : Int) + 1) = ((i + 1 : Nat) : Int) := by unfold wrap64; omega
      rw [a2, ← sumAt_step t h1, hw, Int.toNat_natCast]
      have e : ((sumsL t l).take i ++ List.replicate (d + 1) 0).set i (sumAt t (l.take (i + 1))) = (sumsL t l).take (i + 1) ++ List.replicate d 0 := by
        have h2 : (sumsL t l)[i]? = some (sumAt t (l.take (i + 1))) := by
          unfold sumsL
          rw [List.getElem?_map, List.getElem?_range h1]
          rfl
        have h3 : (sumsL t l).take (i + 1) = (sumsL t l).take i ++ [sumAt t (l.take (i + 1))] := by
          rw [List.take_add_one (l := sumsL t l), h2]
          rfl
        rw [List.set_append_right _ _ (by rw [List.length_take]; omega), h3]
        rw [show i - ((sumsL t l).take i).length = 0 by rw [List.length_take]; omega]
        simp [List.replicate_succ]
      rw [e]
      exact ih (i + 1) (by omega)
  exact loop l.length 0 (by omega)
def pick (t : Nat) (S : Nat → Nat) (d x : Nat) : List S69 → Nat → Nat → Nat
  | [], _, last => last
  | y :: l, i, last => if 0 < cntW t y.f1 then (if d < ONE ∧ x < S i then i else pick t S d x l (i + 1) i) else pick t S d x l (i + 1) last
theorem pick_is {t : Nat} (ht : t < INF) (l : List S69) (hl : l.length ≤ 200) (hw : ∀ y ∈ l, y.f1 < 18446744073709551616) {D X d x : Nat} (hD : flss D ONE = decide (d < ONE)) (hX : ∀ s, s ≤ INF → flss X s = decide (x < s)) : ∀ (n i : Nat), i + n = l.length → ∀ last : Nat,
    Ev (fun k => plane_Weigh.l0 k D (sumsL t l) t (last : Int) X l (l.length : Int) (i : Int)) ((pick t (fun i => sumAt t (l.take (i + 1))) d x (l.drop i) i last : Int), true) := by
  intro n
  induction n with
  | zero =>
    intro i hi last
    refine Ev.step (fun k => by simp only [plane_Weigh.l0]; rfl) (Ev.neg (by omega) (Ev.ret ?_))
    rw [List.drop_eq_nil_of_le (by omega)]
    rfl
  | succ n ih =>
    intro i hi last
    have h1 : i < l.length := by omega
    have hst : wrap64 ((i : Int) + 1) = ((i + 1 : Nat) : Int) := by unfold wrap64; omega
    have hsl : (sumsL t l).length = l.length := by unfold sumsL; rw [List.length_map, List.length_range]
    have hrd : rdOf 0 (sumsL t l) (i : Int) = sumAt t (l.take (i + 1)) := by
      unfold rdOf sumsL
      rw [Int.toNat_natCast, List.getD_eq_getElem?_getD, List.getElem?_map, List.getElem?_range h1]
      rfl
    refine Ev.step (fun k => by simp only [plane_Weigh.l0]; rfl) (Ev.pos (by omega) (Ev.pos (by omega) (Ev.pos (by omega) (Ev.call (counts_is ht (hw _ (rd44_mem h1))) ?_))))
    rw [hst, hrd, rd44_drop h1, hD, hX _ (sumAt_le _ _)]
    generalize hc : cntW t (rd_T69 l (i : Int)).f1 = c
    have hcl : c ≤ INF := by rw [← hc]; exact cntW_le _ _
    rw [fgtr_nn hcl (Nat.zero_le _)]
    simp only [pick, hc]
    by_cases h2 : 0 < c
    · rw [if_pos h2]
      refine Ev.pos (decide_eq_true h2) ?_
      by_cases h3 : d < ONE
      · refine Ev.pos (decide_eq_true h3) (Ev.pos (by rw [hsl]; omega) ?_)
        by_cases h4 : x < sumAt t (l.take (i + 1))
        · rw [if_pos ⟨h3, h4⟩]
          exact Ev.pos (decide_eq_true h4) (Ev.ret rfl)
        · rw [if_neg (fun h => h4 h.2)]
          exact Ev.neg (by simp [h4]) (ih (i + 1) (by omega) i)
      · rw [if_neg (fun h => h3 h.1)]
        exact Ev.neg (by simp only [decide_eq_true_eq]; exact h3) (ih (i + 1) (by omega) i)
    · rw [if_neg h2]
      exact Ev.neg (by simp only [decide_eq_true_eq]; exact h2) (ih (i + 1) (by omega) last)
def TT (l : List S69) : Nat := if sumAt ONE l = INF then TH else ONE
def allW (l : List S69) : Nat := sumAt (TT l) l
theorem TT_lt (l : List S69) : TT l < INF := by unfold TT; split; exact th_lt; exact one_lt
theorem fold_bound (t B : Nat) : ∀ (l : List S69) (s s' : Nat), s ≤ s' → (∀ y ∈ l, cntW t y.f1 ≤ B) → ∀ n, l.length ≤ n → s' ≤ INF → l.foldl (fun s x => addS s (cntW t x.f1)) s ≤ (List.range n).foldl (fun s _ => addS s B) s'
  | [], s, s', h, _, n, _, h' => by
    have : ∀ (l : List Nat) (s' : Nat), s ≤ s' → s' ≤ INF → s ≤ l.foldl (fun s _ => addS s B) s' := by
      intro l
      induction l with
      | nil => intro s' h _; exact h
      | cons x l ih => intro s' h h'; exact ih _ (Nat.le_trans h (le_addS_l B h')) (addS_le _ _)
    exact this _ _ h h'
  | y :: l, s, s', h, hB, n, hn, h' => by
    obtain ⟨m, rfl⟩ : ∃ m, n = m + 1 := ⟨n - 1, by simp at hn; omega⟩
    rw [List.range_succ_eq_map, List.foldl_cons, List.foldl_cons, List.foldl_map]
    exact fold_bound t B l _ _ (addS_mono h (hB y List.mem_cons_self)) (fun z hz => hB z (List.mem_cons_of_mem _ hz)) m (by simpa using hn) (addS_le _ _)
theorem great_sum : (List.range 200).foldl (fun s _ => addS s (cntW TH 9218868437227405311)) 0 < INF := by decide +kernel
theorem small_sum : (List.range 200).foldl (fun s _ => addS s 103582791429521408) 0 < INF := by decide +kernel
theorem small_pos : 0 < rnd2 (val 103582791429521408 * val TH) := by decide +kernel
theorem cntW_great (w : Nat) : cntW TH w ≤ cntW TH 9218868437227405311 := by
  have e : cntW TH 9218868437227405311 = rnd2 (val 9218868437227405311 * val TH) := if_pos (by decide)
  rw [e]
  unfold cntW
  split
  · rename_i h
    unfold INF at h
    exact mul_mono (by omega) (by decide)
  · exact Nat.zero_le _
theorem allW_lt (l : List S69) (hl : l.length ≤ 200) : allW l < INF := by
  unfold allW TT
  split
  · exact Nat.lt_of_le_of_lt (fold_bound TH _ l 0 0 (Nat.le_refl _) (fun y _ => cntW_great y.f1) 200 hl (Nat.zero_le _)) great_sum
  · rename_i h
    have := sumAt_le ONE l
    omega
theorem fold_ge (t : Nat) : ∀ (l : List S69) (s : Nat), s ≤ INF → s ≤ l.foldl (fun s x => addS s (cntW t x.f1)) s ∧ ∀ y ∈ l, cntW t y.f1 ≤ l.foldl (fun s x => addS s (cntW t x.f1)) s
  | [], s, _ => ⟨Nat.le_refl _, by simp⟩
  | y :: l, s, hs => by
    obtain ⟨i1, i2⟩ := fold_ge t l (addS s (cntW t y.f1)) (addS_le _ _)
    rw [List.foldl_cons]
    refine ⟨Nat.le_trans (le_addS_l _ hs) i1, fun z hz => ?_⟩
    rcases List.mem_cons.1 hz with rfl | hz
    · exact Nat.le_trans (le_addS_r _ (cntW_le _ _)) i1
    · exact i2 z hz
theorem sum_ge (t : Nat) (l : List S69) {y : S69} (hy : y ∈ l) : cntW t y.f1 ≤ sumAt t l := (fold_ge t l 0 (Nat.zero_le _)).2 y hy
theorem sum_zero (t : Nat) : ∀ (l : List S69), (∀ y ∈ l, cntW t y.f1 = 0) → sumAt t l = 0 := by
  unfold sumAt
  intro l
  induction l with
  | nil => intro _; rfl
  | cons y l ih =>
    intro h
    rw [List.foldl_cons, h y List.mem_cons_self, addS_zero (Nat.zero_le _)]
    exact ih (fun z hz => h z (List.mem_cons_of_mem _ hz))
theorem cntW_one {w : Nat} (h0 : 0 < w) (h : w < INF) : cntW ONE w = w := by
  unfold cntW
  rw [if_pos ⟨h0, h⟩]
  exact FL.mul_one h
theorem cntW_pos {t w : Nat} (h : 0 < cntW t w) : 0 < w ∧ w < INF := by
  unfold cntW at h
  split at h
  · assumption
  · omega
theorem all_pos (l : List S69) (hl : l.length ≤ 200) : 0 < allW l ↔ ∃ y ∈ l, 0 < y.f1 ∧ y.f1 < INF := by
  constructor
  · intro h
    rcases Classical.em (∃ y ∈ l, 0 < cntW (TT l) y.f1) with ⟨y, hy, hc⟩ | hn
    · exact ⟨y, hy, cntW_pos hc⟩
    · exfalso
      have : allW l = 0 := sum_zero _ l (fun y hy => by
        rcases Nat.eq_zero_or_pos (cntW (TT l) y.f1) with e | e
        · exact e
        · exact absurd ⟨y, hy, e⟩ hn)
      omega
  · rintro ⟨y, hy, h0, h1⟩
    unfold allW TT
    split
    · rename_i hI
      rcases Nat.eq_zero_or_pos (sumAt TH l) with e | e
      · exfalso
        have hb : ∀ z ∈ l, cntW ONE z.f1 ≤ 103582791429521408 := by
          intro z hz
          have h3 := sum_ge TH l hz
          by_cases h4 : 0 < z.f1 ∧ z.f1 < INF
          · rw [cntW_one h4.1 h4.2]
            rcases Nat.lt_or_ge z.f1 103582791429521408 with h5 | h5
            · omega
            · exfalso
              have h6 : rnd2 (val 103582791429521408 * val TH) ≤ rnd2 (val z.f1 * val TH) := mul_mono h5 h4.2
              have h7 : cntW TH z.f1 = rnd2 (val z.f1 * val TH) := if_pos h4
              have := small_pos
              omega
          · have : cntW ONE z.f1 = 0 := if_neg h4
            omega
        have := fold_bound ONE _ l 0 0 (Nat.le_refl _) hb 200 hl (Nat.zero_le _)
        have h2 := small_sum
        have h3 : sumAt ONE l = l.foldl (fun s x => addS s (cntW ONE x.f1)) 0 := rfl
        omega
      · exact e
    · have := sum_ge ONE l hy
      rw [cntW_one h0 h1] at this
      omega
def weighF (l : List S69) (d : Nat) : Int × Bool := if 0 < allW l then ((pick (TT l) (fun i => sumAt (TT l) (l.take (i + 1))) (eff d) (prodS (eff d) (allW l)) l 0 0 : Int), true) else (0, false)
theorem last_is' (t : Nat) (l : List S69) (h : 0 < l.length) : rdOf 0 (sumsL t l) (((l.length - 1 : Nat) : Int)) = sumAt t l := by
  unfold rdOf sumsL
  rw [Int.toNat_natCast, List.getD_eq_getElem?_getD, List.getElem?_map, List.getElem?_range (by omega)]
  simp only [Option.map_some, Option.getD_some]
  rw [List.take_of_length_le (by omega)]
theorem Weigh_is (l : List S69) (hl : l.length ≤ 200) (hw : ∀ y ∈ l, y.f1 < 18446744073709551616) (d : Nat) (hd : d < 18446744073709551616) : Ev (fun k => plane_Weigh.f k l d) (weighF l d) := by
  unfold plane_Weigh.f
  by_cases h0 : l.length = 0
  · refine Ev.pos (by omega) (Ev.ret ?_)
    have : l = [] := List.length_eq_zero_iff.1 h0
    subst this
    unfold weighF allW
    rw [if_neg (by rw [show sumAt (TT []) [] = 0 from rfl]; omega)]
  · have hp : 0 < l.length := by omega
    have hsl : ∀ t, (sumsL t l).length = l.length := fun t => by unfold sumsL; rw [List.length_map, List.length_range]
    have hlast : wrap64 ((l.length : Int) - 1) = ((l.length - 1 : Nat) : Int) := by unfold wrap64; omega
    have rest : Ev (fun k => plane_Weigh.j0 k l d (sumsL (TT l) l) (TT l)) (weighF l d) := by
      refine Ev.step (fun k => by simp only [plane_Weigh.j0]; rfl) ?_
      rw [hsl, hlast, last_is' _ l hp]
      refine Ev.pos (by omega) (Ev.pos (by omega) ?_)
      have hal := allW_lt l hl
      show Ev (fun k => if fgtr (allW l) 0 = true then _ else _) _
      rw [fgtr_nn (Nat.le_of_lt hal) (Nat.zero_le _)]
      by_cases h1 : 0 < allW l
      · refine Ev.pos (decide_eq_true h1) ?_
        unfold weighF
        rw [if_pos h1]
        have go : ∀ D, D ≤ INF → D = eff d → Ev (fun k => plane_Weigh.j1 k l D (sumsL (TT l) l) (TT l) (allW l)) ((pick (TT l) (fun i => sumAt (TT l) (l.take (i + 1))) (eff d) (prodS (eff d) (allW l)) l 0 0 : Int), true) := by
          intro D hD he
          rw [← he]
          obtain ⟨m1, m2⟩ := prodS_is hD hal h1
          refine Ev.step (fun k => by simp only [plane_Weigh.j1]; rfl) (Ev.pos m1 ?_)
          rw [m2]
          exact pick_is (TT_lt l) l hl hw (flss_is hD (Nat.le_of_lt one_lt)) (fun s hs => flss_is (prodS_le _ _) hs) l.length 0 (by omega) 0
        have hge : fgeq d 0 = true ↔ (d ≤ INF ∨ d = NEG0) := by
          unfold fgeq
          rw [Bool.or_eq_true, beq_iff_eq, beq_iff_eq]
          exact geq0 hd
        by_cases h2 : fgeq d 0 = true
        · refine Ev.pos h2 ?_
          rcases hge.1 h2 with h3 | h3
          · exact go d h3 (by unfold eff; rw [if_pos h3])
          · subst h3
            have e0 : eff NEG0 = 0 := if_neg (by decide)
            rw [e0]
            have hm : fmulOk NEG0 (allW l) = true ∧ fmul NEG0 (allW l) = NEG0 := by
              unfold fmulOk fmul
              rw [show NEG0 = 9223372036854775808 from rfl, mul_neg0 hal]
              exact ⟨rfl, rfl⟩
            refine Ev.step (fun k => by simp only [plane_Weigh.j1]; rfl) (Ev.pos hm.1 ?_)
            rw [show fmul NEG0 (sumAt (TT l) l) = NEG0 from hm.2]
            have hp0 : prodS 0 (allW l) = 0 := by
              unfold prodS
              rw [if_pos (by decide), val_zero, Nat.zero_mul]
              exact near_zero _
            rw [hp0]
            have hl0 : ∀ s, s ≤ INF → flss NEG0 s = decide (0 < s) := by
              intro s hs
              have := flss_is (Nat.zero_le _) hs
              rw [← this]
              unfold flss
              rw [show NEG0 = 9223372036854775808 from rfl, order_neg0 hs]
            exact pick_is (TT_lt l) l hl hw (hl0 _ (Nat.le_of_lt one_lt)) hl0 l.length 0 (by omega) 0
        · refine Ev.neg h2 ?_
          refine go 0 (Nat.zero_le _) ?_
          unfold eff
          rw [if_neg (fun h => h2 (hge.2 (Or.inl h)))]
      · unfold weighF
        rw [if_neg h1]
        exact Ev.neg (by simp only [decide_eq_true_eq]; exact h1) (Ev.ret rfl)
    refine Ev.neg (by omega) (Ev.bind (sums_is one_lt l hl hw) ?_)
    rw [hsl, hlast, last_is' _ l hp]
    refine Ev.pos (by omega) (Ev.pos (by omega) (Ev.call (isInf_is (sumAt_le _ _)) ?_))
    by_cases h1 : sumAt ONE l = INF
    · refine Ev.pos (decide_eq_true h1) (Ev.bind (sums_is th_lt l hl hw) ?_)
      have : TT l = TH := by unfold TT; rw [if_pos h1]
      rw [this] at rest
      exact rest
    · have : TT l = ONE := by unfold TT; rw [if_neg h1]
      rw [this] at rest
      exact Ev.neg (by simp only [decide_eq_true_eq]; exact h1) rest
end Go.Proofs.YtabkdmfnafeaeaaDoor.PP
end
section
namespace Go.Proofs.YtabkdmfnafeaeaaDoor.HP
open Go.RowKit Go.Proofs.YtabkdmfnafeaeaaDoor.S Go.Proofs.YtabkdmfnafeaeaaDoorW.PrintWords Go.Proofs.YtabkdmfnafeaeaaDoorW.PrintLast Go.Proofs.YtabkdmfnafeaeaaDoorW.PrintMore
def hostL : List UInt8 := [104, 111, 115, 116]
def verL : List UInt8 := [72, 84, 84, 80, 47, 49, 46, 49]
theorem trim_le (l cs : List UInt8) : (Lib.trimS l cs).length ≤ l.length := by
  have dw : ∀ (p : UInt8 → Bool) (l : List UInt8), (l.dropWhile p).length ≤ l.length := fun p l => (List.dropWhile_suffix p).length_le
  unfold Lib.trimS Lib.trimRightS Lib.trimLeftS
  first
    | (have h1 := dw (cs.contains ·) l; have h2 := dw (cs.contains ·) (l.dropWhile (cs.contains ·)).reverse; have h3 := dw (cs.contains ·) l.reverse; have h4 := dw (cs.contains ·) (l.reverse.dropWhile (cs.contains ·)).reverse; simp only [List.length_reverse] at *; omega)
abbrev HR := ByteArray × ByteArray × ByteArray × ByteArray × List S38 × Int × Int
def errR (e : Int) : HR := (B [], B [], B [], B [], [], 0, e)
def fin (E : Int) (m p q hh : ByteArray) (n : Nat) (ho : ByteArray) (fl : List S38) : HR :=
  if n = 1 then (if 32 < fl.length then errR 6 else (m, p, q, if hh.toList = [] then ho else hh, fl, E + 4, 0)) else errR 4
end Go.Proofs.YtabkdmfnafeaeaaDoor.HP
end
section
namespace Go.Proofs.YtabkdmfnafeaeaaDoor.HP
open Go.RowKit Go.Proofs.YtabkdmfnafeaeaaDoor.S Go.Proofs.YtabkdmfnafeaeaaDoorW.PrintWords Go.Proofs.YtabkdmfnafeaeaaDoorW.PrintLast Go.Proofs.YtabkdmfnafeaeaaDoorW.PrintMore
def hexB (b : UInt8) : Bool := decide (48 ≤ b.toNat ∧ b.toNat ≤ 57 ∨ 97 ≤ b.toNat ∧ b.toNat ≤ 102 ∨ 65 ≤ b.toNat ∧ b.toNat ≤ 70)
def pchB (b : UInt8) : Bool := alB b || decide (0 ≤ Lib.indexByte [47, 45, 46, 95, 126, 33, 36, 38, 39, 40, 41, 42, 43, 44, 59, 61, 58, 64] b)
def two : List UInt8 → Bool
  | a :: b :: _ => hexB a && hexB b
  | _ => false
theorem two_short : ∀ (l : List UInt8), l.length < 2 → two l = false
  | [], _ => rfl
  | [_], _ => rfl
  | _ :: _ :: _, h => by simp at h; omega
def atB (q : Bool) : List UInt8 → Bool
  | [] => true
  | c :: r => if c.toNat = 37 then two r else if c.toNat = 63 ∧ q = true then true else pchB c
theorem atB_cons (q : Bool) (c : UInt8) (r : List UInt8) : atB q (c :: r) = if c.toNat = 37 then two r else if c.toNat = 63 ∧ q = true then true else pchB c := rfl
def suchL (q : Bool) : List UInt8 → Bool
  | [] => true
  | c :: r => atB q (c :: r) && suchL q r
theorem hex_is (b : UInt8) : head_hex.f (b.toNat : Int) = some (hexB b) := by
  unfold head_hex.f hexB
  repeat' split
  all_goals simp only [Option.some.injEq]
  all_goals first
    | (symm; rw [decide_eq_true_eq]; omega)
    | (rw [decide_eq_decide]; omega)
    | (symm; rw [decide_eq_false_iff_not]; omega)
theorem such_loop (q : Bool) (l : List UInt8) (hl : l.length ≤ 4294967296) : ∀ (d i : Nat), i + d = l.length → Ev (fun k => head_such.l0 k (B l) q (i : Int)) (suchL q (l.drop i)) := by
  intro d
  induction d with
  | zero =>
    intro i hi
    refine Ev.step (fun k => by simp only [head_such.l0]; rfl) (Ev.neg (by rw [B_size]; omega) (Ev.ret ?_))
    rw [List.drop_eq_nil_of_le (by omega)]
    rfl
  | succ d ih =>
    intro i hi
    have hlt : i < l.length := by omega
    have hw := wrap_succ i (by omega)
    have hw2 : wrap64 ((i : Int) + 2) = ((i + 2 : Nat) : Int) := by unfold wrap64; omega
    have hd : l.drop i = l[i] :: l.drop (i + 1) := List.drop_eq_getElem_cons hlt
    have hi' := ih (i + 1) (by omega)
    have hx : (B l).extract (i : Int).toNat ((i + 1 : Nat) : Int).toNat = B [l[i]] := by
      rw [Int.toNat_natCast, Int.toNat_natCast, B_extract, hd, Nat.add_sub_cancel_left]
      rfl
    have hc : strings_Contains.f (⟨#[47, 45, 46, 95, 126, 33, 36, 38, 39, 40, 41, 42, 43, 44, 59, 61, 58, 64]⟩ : ByteArray) (B [l[i]]) = some (decide (0 ≤ Lib.indexByte [47, 45, 46, 95, 126, 33, 36, 38, 39, 40, 41, 42, 43, 44, 59, 61, 58, 64] l[i])) := by
      unfold strings_Contains.f
      rw [if_pos (by rw [B_size]; rfl), B_list]
      rfl
    have hws : wrap64 (((B l).size : Int) - (i : Int)) = ((l.length - i : Nat) : Int) := by rw [B_size]; unfold wrap64; omega
    rw [hd]
    show Ev _ (atB q (l[i] :: l.drop (i + 1)) && suchL q (l.drop (i + 1)))
    have hJ2 : l[i].toNat ≠ 37 → ¬ (l[i].toNat = 63 ∧ q = true) → Ev (fun k => head_such.j2 k (B l) q (i : Int) (l[i].toNat : Int)) (atB q (l[i] :: l.drop (i + 1)) && suchL q (l.drop (i + 1))) := by
      intro h37 h63
      refine Ev.step (fun k => by simp only [head_such.j2]; rfl) ?_
      refine Ev.call (alnum_is _) ?_
      have hat : atB q (l[i] :: l.drop (i + 1)) = pchB l[i] := by
        rw [atB_cons, if_neg h37, if_neg h63]
      rw [hat, hw]
      cases hA : alB l[i] with
      | true =>
        have hp : pchB l[i] = true := by simp [pchB, hA]
        rw [hp, Bool.true_and]
        exact Ev.pos rfl hi'
      | false =>
        refine Ev.neg (by simp) (Ev.pos (by omega) (Ev.pos (by omega) (Ev.pos (by rw [B_size]; omega) ?_)))
        rw [hx]
        refine Ev.call hc ?_
        cases hD : decide (0 ≤ Lib.indexByte [47, 45, 46, 95, 126, 33, 36, 38, 39, 40, 41, 42, 43, 44, 59, 61, 58, 64] l[i]) with
        | true =>
          have hp : pchB l[i] = true := by simp only [pchB, hD, Bool.or_true]
          rw [hp, Bool.true_and]
          exact Ev.pos rfl hi'
        | false =>
          have hp : pchB l[i] = false := by simp only [pchB, hA, hD, Bool.or_false]
          rw [hp, Bool.false_and]
          exact Ev.neg (by simp) (Ev.ret rfl)
    refine Ev.step (fun k => by simp only [head_such.l0]; rfl) ?_
    refine Ev.pos (by rw [B_size]; omega) (Ev.pos (by omega) ?_)
    rw [B_bt l i hlt]
    by_cases h37 : l[i].toNat = 37
    · refine Ev.pos (by omega) ?_
      rw [hws]
      have hat : atB q (l[i] :: l.drop (i + 1)) = two (l.drop (i + 1)) := by
        rw [atB_cons, if_pos h37]
      rw [hat]
      by_cases h3 : l.length - i < 3
      · have hF : two (l.drop (i + 1)) = false := two_short _ (by rw [List.length_drop]; omega)
        rw [hF, Bool.false_and]
        refine Ev.pos (by omega) ?_
        refine Ev.step (fun k => by simp only [head_such.j1]; rfl) ?_
        exact Ev.pos (by trivial) (Ev.ret rfl)
      · have h1 : i + 1 < l.length := by omega
        have h2 : i + 2 < l.length := by omega
        have hd1 : l.drop (i + 1) = l[i + 1] :: l[i + 2] :: l.drop (i + 3) := by
          rw [List.drop_eq_getElem_cons h1, List.drop_eq_getElem_cons h2]
        have hM : two (l.drop (i + 1)) = (hexB l[i + 1] && hexB l[i + 2]) := by rw [hd1]; rfl
        rw [hM, hw, hw2]
        refine Ev.neg (by omega) (Ev.pos (by omega) (Ev.pos (by rw [B_size]; omega) ?_))
        rw [B_bt l (i + 1) h1]
        refine Ev.call (hex_is _) ?_
        cases hA : hexB l[i + 1] with
        | false =>
          refine Ev.neg (by simp) ?_
          rw [Bool.false_and, Bool.false_and]
          refine Ev.step (fun k => by simp only [head_such.j1]; rfl) ?_
          exact Ev.pos (by trivial) (Ev.ret rfl)
        | true =>
          refine Ev.pos rfl (Ev.pos (by omega) (Ev.pos (by rw [B_size]; omega) ?_))
          rw [B_bt l (i + 2) h2]
          refine Ev.call (hex_is _) ?_
          cases hA2 : hexB l[i + 2] with
          | false =>
            rw [Bool.and_false, Bool.false_and]
            refine Ev.step (fun k => by simp only [head_such.j1]; rfl) ?_
            exact Ev.pos (by trivial) (Ev.ret rfl)
          | true =>
            rw [Bool.and_true, Bool.true_and]
            refine Ev.step (fun k => by simp only [head_such.j1]; rfl) (Ev.neg (by decide) ?_)
            rw [hw]
            exact hi'
    · refine Ev.neg (by omega) ?_
      by_cases h63 : l[i].toNat = 63
      · refine Ev.pos (by omega) ?_
        by_cases hq : q = true
        · refine Ev.pos hq ?_
          have hat : atB q (l[i] :: l.drop (i + 1)) = true := by
            rw [atB_cons, if_neg h37, if_pos ⟨h63, hq⟩]
          rw [hat, Bool.true_and, hw]
          exact hi'
        · exact Ev.neg hq (hJ2 h37 (fun h => hq h.2))
      · exact Ev.neg (by omega) (hJ2 h37 (fun h => h63 h.1))
theorem such_is (q : Bool) (l : List UInt8) (hl : l.length ≤ 4294967296) : Ev (fun k => head_such.f k (B l) q) (suchL q l) := such_loop q l hl l.length 0 (by omega)
def pathL (l : List UInt8) : Bool := if Lib.hasPrefix l [47] = true then suchL false l else false
theorem path_is (l : List UInt8) (hl : l.length ≤ 4294967296) : Ev (fun k => head_path.f k (B l)) (pathL l) := by
  have hp : strings_HasPrefix.f (B l) (⟨#[47]⟩ : ByteArray) = some (Lib.hasPrefix l [47]) := by
    unfold strings_HasPrefix.f
    rw [B_list]
  unfold head_path.f pathL
  refine Ev.call hp ?_
  by_cases h : Lib.hasPrefix l [47] = true
  · rw [if_pos h]
    exact Ev.pos h (Ev.bind (such_is false l hl) (Ev.ret rfl))
  · rw [if_neg h]
    exact Ev.neg h (Ev.ret rfl)
theorem splitK_len (sub : List UInt8) : ∀ (k : Nat) (s : List UInt8), (Lib.splitK sub 0 k s).length ≤ k + 1 ∧ ∀ p ∈ Lib.splitK sub 0 k s, p.length ≤ s.length := by
  intro k
  induction k with
  | zero => intro s; simp [Lib.splitK]
  | succ k ih =>
    intro s
    simp only [Lib.splitK]
    split
    · simp
    · have h := ih (s.drop ((Lib.index s sub).toNat + sub.length))
      refine ⟨by simp only [List.length_cons]; omega, ?_⟩
      intro p hp
      rcases List.mem_cons.1 hp with rfl | hp
      · simp
        omega
      · have := h.2 p hp
        rw [List.length_drop] at this
        omega
theorem countFrom_le (sub : List UInt8) : ∀ (k : Nat) (s : List UInt8), Lib.countFrom sub k s ≤ k
  | 0, _ => Nat.le_refl _
  | k + 1, s => by
    unfold Lib.countFrom
    split
    · omega
    · have := countFrom_le sub k (s.drop ((Lib.index s sub).toNat + sub.length))
      omega
theorem split_len (s sub : List UInt8) : (Lib.split s sub).length ≤ s.length + 2 ∧ ∀ p ∈ Lib.split s sub, p.length ≤ s.length := by
  have h1 := splitK_len sub (Lib.count s sub) s
  have h2 : Lib.count s sub ≤ s.length + 1 := countFrom_le sub _ s
  unfold Lib.split
  exact ⟨by omega, h1.2⟩
end Go.Proofs.YtabkdmfnafeaeaaDoor.HP
end
section
namespace Go.Proofs.YtabkdmfnafeaeaaDoor.HP
open Go.RowKit Go.Proofs.YtabkdmfnafeaeaaDoor.S Go.Proofs.YtabkdmfnafeaeaaDoorW.PrintWords Go.Proofs.YtabkdmfnafeaeaaDoorW.PrintLast Go.Proofs.YtabkdmfnafeaeaaDoorW.PrintMore
theorem Ev.res {α : Type} {g : Nat → Option α} {a r : α} (h : Ev g a) (e : a = r) : Ev g r := e ▸ h
def hbB (b : UInt8) : Bool := alB b || decide (b.toNat = 45)
def partOk (p : List UInt8) : Bool := p.all hbB && (p != [])
def hostS (l : List UInt8) : List UInt8 × Bool :=
  if (Lib.cut l [58]).2.1.all digB = true ∧ (Lib.cut l [58]).2.1.length ≤ 5 ∧ (Lib.cut l [58]).1.length ≤ 64 ∧ (Lib.split (Lib.cut l [58]).1 [46]).all partOk = true then ((Lib.cut l [58]).1.map lowB, true) else ([], false)
def hostR (l : List UInt8) : ByteArray × Bool := (B (hostS l).1, (hostS l).2)
theorem hostP_is (x4 : ByteArray) (parts : List ByteArray) (n i : Int) (p : List UInt8) (hl : p.length ≤ 4294967296) (r : ByteArray × Bool)
    (h : Ev (fun k => head_HostX.l0 k x4 parts n (wrap64 (i + 1))) r) : ∀ (d j : Nat), j + d = p.length → Ev (fun k => head_HostX.l1 k x4 (B p) parts n i (p.length : Int) (j : Int)) (if ((p.drop j).all hbB && (p != [])) = true then r else (B [], false)) := by
  intro d
  induction d with
  | zero =>
    intro j hj
    rw [List.drop_eq_nil_of_le (by omega), List.all_nil, Bool.true_and]
    by_cases hp : p = []
    · rw [if_neg (by simp [hp])]
      exact Ev.step (fun k => by simp only [head_HostX.l1]; rfl) (Ev.neg (by omega) (Ev.pos (by rw [B_toList]; exact hp) (Ev.ret rfl)))
    · rw [if_pos (by simp [hp])]
      exact Ev.step (fun k => by simp only [head_HostX.l1]; rfl) (Ev.neg (by omega) (Ev.neg (by rw [B_toList]; exact hp) h))
  | succ d ih =>
    intro j hj
    have hr := ih (j + 1) (by omega)
    have hw := wrap_succ j (by omega)
    rw [← hw] at hr
    have hlt : j < p.length := by omega
    have hb := B_bt p j hlt
    have hd : p.drop j = p[j] :: p.drop (j + 1) := List.drop_eq_getElem_cons hlt
    rw [hd, List.all_cons]
    refine Ev.step (fun k => by simp only [head_HostX.l1]; rfl) (Ev.pos (by omega) (Ev.pos (by omega) (Ev.pos (by rw [B_size]; omega) ?_)))
    rw [hb]
    refine Ev.call (alnum_is _) ?_
    cases hA : alB p[j] with
    | true =>
      rw [show hbB p[j] = true by simp [hbB, hA], Bool.true_and]
      exact Ev.pos rfl hr
    | false =>
      refine Ev.neg (by simp) ?_
      by_cases h45 : p[j].toNat = 45
      · rw [show hbB p[j] = true by simp [hbB, h45], Bool.true_and]
        exact Ev.pos (by omega) hr
      · rw [show hbB p[j] = false by simp [hbB, hA, h45], Bool.false_and, Bool.false_and, if_neg (by simp)]
        exact Ev.neg (by omega) (Ev.ret rfl)
theorem hostL_is (h : List UInt8) (hh : h.length ≤ 4294967296) (ps : List (List UInt8)) (hps : ps.length ≤ 4294967296) (hb : ∀ p ∈ ps, p.length ≤ 4294967296) :
    ∀ (d i : Nat), i + d = ps.length → Ev (fun k => head_HostX.l0 k (B h) (ps.map B) (ps.length : Int) (i : Int)) (if (ps.drop i).all partOk = true then (B (h.map lowB), true) else (B [], false)) := by
  intro d
  induction d with
  | zero =>
    intro i hi
    rw [List.drop_eq_nil_of_le (by omega), List.all_nil, if_pos rfl]
    exact Ev.step (fun k => by simp only [head_HostX.l0]; rfl) (Ev.neg (by omega) (Ev.call (Lower_is h hh) (Ev.ret rfl)))
  | succ d ih =>
    intro i hi
    have hw := wrap_succ i (by omega)
    have hlt : i < ps.length := by omega
    have h1 := ih (i + 1) (by omega)
    rw [← hw] at h1
    have hr := hostP_is (B h) (ps.map B) (ps.length : Int) (i : Int) ps[i] (hb _ (List.getElem_mem hlt)) _ h1 ps[i].length 0 (by omega)
    have hrd : rdOf ByteArray.empty (ps.map B) (i : Int) = B ps[i] := by simp [rdOf, hlt]
    have hd : ps.drop i = ps[i] :: ps.drop (i + 1) := List.drop_eq_getElem_cons hlt
    refine Ev.step (fun k => by simp only [head_HostX.l0]; rfl) (Ev.pos (by omega) (Ev.pos (by omega) (Ev.pos (by rw [List.length_map]; omega) ?_)))
    rw [hrd, B_size, hd, List.all_cons]
    rw [List.drop_zero] at hr
    refine Ev.res hr ?_
    show (if partOk ps[i] = true then _ else _) = _
    cases partOk ps[i] <;> simp
theorem hostX_is (l : List UInt8) (hl : l.length ≤ 1000000000) (hd : (Lib.cut l [58]).2.1.all digB = true) : Ev (fun k => head_HostX.f k (B l)) (hostR l) := by
  have hc : strings_Cut.f (B l) (⟨#[58]⟩ : ByteArray) = some (B (Lib.cut l [58]).1, B (Lib.cut l [58]).2.1, (Lib.cut l [58]).2.2) := Cut_is l [58] (by omega)
  have hle : (Lib.cut l [58]).1.length ≤ l.length := by
    unfold Lib.cut
    split
    · simp
      omega
    · exact Nat.le_refl _
  unfold hostR hostS
  generalize (Lib.cut l [58]).1 = h at hc hle ⊢
  generalize (Lib.cut l [58]).2.1 = port at hc hd ⊢
  unfold head_HostX.f
  by_cases h5 : port.length ≤ 5
  · by_cases h64 : h.length ≤ 64
    · refine Ev.call hc (Ev.neg (by rw [B_size]; omega) ?_)
      rw [show decide (((B h).size : Int) > 64) = false by rw [B_size]; exact decide_eq_false (by omega)]
      have hs : strings_Split.f (B h) (⟨#[46]⟩ : ByteArray) = some ((Lib.split h [46]).map B) := Split_is h [46] (by omega) (by decide)
      obtain ⟨s1, s2⟩ := split_len h [46]
      have hr := hostL_is h (by omega) (Lib.split h [46]) (by omega) (fun p hp => by have := s2 p hp; omega) (Lib.split h [46]).length 0 (by omega)
      rw [List.drop_zero] at hr
      refine Ev.step (fun k => by simp only [head_HostX.j0]; rfl) (Ev.neg (by simp) (Ev.call hs ?_))
      rw [List.length_map]
      refine Ev.res hr ?_
      by_cases hp : (Lib.split h [46]).all partOk = true
      · rw [if_pos hp, if_pos ⟨hd, h5, h64, hp⟩]
      · rw [if_neg hp, if_neg (fun hh => hp hh.2.2.2)]
    · rw [if_neg (fun hh => h64 hh.2.2.1)]
      refine Ev.call hc (Ev.neg (by rw [B_size]; omega) ?_)
      rw [show decide (((B h).size : Int) > 64) = true by rw [B_size]; exact decide_eq_true (by omega)]
      exact Ev.step (fun k => by simp only [head_HostX.j0]; rfl) (Ev.pos (by trivial) (Ev.ret rfl))
  · rw [if_neg (fun hh => h5 hh.2.1)]
    exact Ev.call hc (Ev.pos (by rw [B_size]; omega) (Ev.step (fun k => by simp only [head_HostX.j0]; rfl) (Ev.pos (by trivial) (Ev.ret rfl))))
theorem host_is (l : List UInt8) (hl : l.length ≤ 1000000000) : Ev (fun k => head_Host.f k (B l)) (hostR l) := by
  have hc : strings_Cut.f (B l) (⟨#[58]⟩ : ByteArray) = some (B (Lib.cut l [58]).1, B (Lib.cut l [58]).2.1, (Lib.cut l [58]).2.2) := Cut_is l [58] (by omega)
  unfold head_Host.f
  by_cases h : (Lib.cut l [58]).2.1.all digB = true
  · exact Ev.call hc (Ev.pos (by rw [B_list]; exact h) (hostX_is l hl h))
  · refine Ev.call hc (Ev.neg (by rw [B_list]; exact h) (Ev.ret ?_))
    unfold hostR hostS
    rw [if_neg (fun hh => h hh.1)]
    rfl
end Go.Proofs.YtabkdmfnafeaeaaDoor.HP
end
section
namespace Go.Proofs.YtabkdmfnafeaeaaDoor.HP
open Go.RowKit Go.Proofs.YtabkdmfnafeaeaaDoor.S Go.Proofs.YtabkdmfnafeaeaaDoorW.PrintWords Go.Proofs.YtabkdmfnafeaeaaDoorW.PrintLast Go.Proofs.YtabkdmfnafeaeaaDoorW.PrintMore
abbrev Fd := List UInt8 × List UInt8
def sF (f : Fd) : S38 := ⟨B f.1, B f.2⟩
def wf (f : Fd) : Fd := (f.1, 32 :: f.2)
end Go.Proofs.YtabkdmfnafeaeaaDoor.HP
end
section
namespace Go.Proofs.YtabkdmfnafeaeaaDoor.HP
open Go.RowKit Go.Proofs.YtabkdmfnafeaeaaDoor.S Go.Proofs.YtabkdmfnafeaeaaDoorW.PrintWords Go.Proofs.YtabkdmfnafeaeaaDoorW.PrintLast Go.Proofs.YtabkdmfnafeaeaaDoorW.PrintMore
theorem cut_le (s sep : List UInt8) : (Lib.cut s sep).1.length ≤ s.length ∧ (Lib.cut s sep).2.1.length ≤ s.length := by
  unfold Lib.cut
  split
  · simp
    omega
  · simp
theorem Ev.ite {α : Type} {c : Prop} [Decidable c] {a b : Nat → Option α} {x y : α} (h1 : c → Ev a x) (h2 : ¬ c → Ev b y) : Ev (fun k => if c then a k else b k) (if c then x else y) := by
  by_cases h : c
  · rw [if_pos h]; exact Ev.pos h (h1 h)
  · rw [if_neg h]; exact Ev.neg h (h2 h)
def lineS (ln : List UInt8) : Option Fd :=
  if (Lib.cut ln [58]).2.2 = true ∧ tokOk (Lib.cut ln [58]).1 = true ∧ valOk (Lib.trimS (Lib.cut ln [58]).2.1 [9, 32]) = true then some ((Lib.cut ln [58]).1.map lowB, Lib.trimS (Lib.cut ln [58]).2.1 [9, 32]) else none
def loopS (E : Int) (m p q hh : ByteArray) : List (List UInt8) → Nat → List UInt8 → List Fd → HR
  | [], n, ho, acc => fin E m p q hh n (B ho) (acc.map sF)
  | ln :: r, n, ho, acc => match lineS ln with
    | none => errR 4
    | some f => if f.1 = hostL then (if (hostS f.2).2 = true then loopS E m p q hh r (n + 1) (hostS f.2).1 (acc ++ [f]) else errR 4) else loopS E m p q hh r n ho (acc ++ [f])
set_option maxHeartbeats 4000000 in
theorem loopS_is (E : Int) (hE : 0 ≤ E ∧ E ≤ 100000) (m p q hh : ByteArray) (lines : List ByteArray) (hll : lines.length ≤ 100000) :
    ∀ (ls : List (List UInt8)) (pre : List ByteArray) (n : Nat) (ho : List UInt8) (acc : List Fd),
      lines = pre ++ ls.map B → (∀ l ∈ ls, l.length ≤ 1000000000) →
      n ≤ pre.length → acc.length ≤ pre.length →
      Ev (fun k => head_Parse.l0 k E lines (n : Int) (pre.length : Int) (B ho) m p q hh (acc.map sF)) (loopS E m p q hh ls n ho acc) := by
  intro ls
  induction ls with
  | nil =>
    intro pre n ho acc hl _ hn ha
    have hw : wrap64 (E + 4) = E + 4 := by unfold wrap64; omega
    rw [List.map_nil, List.append_nil] at hl
    subst hl
    refine Ev.step (fun k => by simp only [head_Parse.l0]; rfl) (Ev.neg (by omega) ?_)
    rw [hw]
    show Ev _ (fin E m p q hh n (B ho) (acc.map sF))
    unfold fin
    by_cases h1 : n = 1
    · rw [if_pos h1]
      refine Ev.pos (by omega) ?_
      by_cases h2 : 32 < (acc.map sF).length
      · rw [if_pos h2]
        exact Ev.pos (by omega) (Ev.ret rfl)
      · rw [if_neg h2]
        refine Ev.neg (by omega) ?_
        by_cases h3 : hh.toList = []
        · rw [if_pos h3]
          simp only [if_pos h3]
          exact Ev.ret rfl
        · rw [if_neg h3]
          simp only [if_neg h3]
          exact Ev.ret rfl
    · rw [if_neg h1]
      exact Ev.neg (by omega) (Ev.ret rfl)
  | cons ln ls ih =>
    intro pre n ho acc hl hg hn ha
    have g1 := hg ln (by simp)
    have hlen : pre.length + (ls.length + 1) = lines.length := by rw [hl]; simp
    have hrd : rdOf ByteArray.empty lines (pre.length : Int) = B ln := by
      rw [hl]
      simp [rdOf]
    have c1 : strings_Cut.f (B ln) (⟨#[58]⟩ : ByteArray) = some (B (Lib.cut ln [58]).1, B (Lib.cut ln [58]).2.1, (Lib.cut ln [58]).2.2) := Cut_is ln [58] (by omega)
    obtain ⟨le1, le2⟩ := cut_le ln [58]
    have t1 : strings_Trim.f (B (Lib.cut ln [58]).2.1) (⟨#[9, 32]⟩ : ByteArray) = some (B (Lib.trimS (Lib.cut ln [58]).2.1 [9, 32])) := Trim_is (Lib.cut ln [58]).2.1 [9, 32] (by omega) (by decide) (by decide)
    have htl := trim_le (Lib.cut ln [58]).2.1 [9, 32]
    have tk := token_is (Lib.cut ln [58]).1 (by omega)
    have vl := value_is (Lib.trimS (Lib.cut ln [58]).2.1 [9, 32]) (by omega)
    have lo : head_lower.f (B (Lib.cut ln [58]).1) = some (B ((Lib.cut ln [58]).1.map lowB)) := Lower_is (Lib.cut ln [58]).1 (by omega)
    have hx := host_is (Lib.trimS (Lib.cut ln [58]).2.1 [9, 32]) (by omega)
    have hw1 : wrap64 ((pre.length : Int) + 1) = ((pre ++ [B ln]).length : Int) := by
      rw [List.length_append]
      unfold wrap64
      simp
      omega
    have hw2 : wrap64 ((n : Int) + 1) = ((n + 1 : Nat) : Int) := by unfold wrap64; omega
    have hl' : lines = (pre ++ [B ln]) ++ ls.map B := by rw [hl]; simp
    have hg' : ∀ x ∈ ls, x.length ≤ 1000000000 := fun x hx => hg x (by simp [hx])
    have hp : (pre ++ [B ln]).length = pre.length + 1 := by simp
    rw [loopS]
    generalize hc1 : (Lib.cut ln [58]).1 = nm at *
    generalize hc2 : (Lib.cut ln [58]).2.1 = v0 at *
    generalize hc3 : (Lib.cut ln [58]).2.2 = is at *
    generalize hv : Lib.trimS v0 [9, 32] = v at *
    have hline : lineS ln = if is = true ∧ tokOk nm = true ∧ valOk v = true then some (nm.map lowB, v) else none := by
      unfold lineS
      rw [hc1, hc2, hc3, hv]
    rw [hline]
    have hac2 : (acc ++ [(nm.map lowB, v)]).length ≤ (pre ++ [B ln]).length := by rw [hp, List.length_append]; exact Nat.succ_le_succ ha
    have hn1 : n + 1 ≤ (pre ++ [B ln]).length := by rw [hp]; exact Nat.succ_le_succ hn
    have hn0 : n ≤ (pre ++ [B ln]).length := by rw [hp]; exact Nat.le_succ_of_le hn
    have hacl : (acc.map sF).length = acc.length := List.length_map ..
    refine Ev.step (fun k => by simp only [head_Parse.l0]; rfl) ?_
    refine Ev.pos (by omega) (Ev.pos (by omega) ?_)
    rw [hrd]
    refine Ev.call c1 (Ev.call t1 ?_)
    cases is with
    | false =>
      rw [if_neg (by simp)]
      exact Ev.neg (by simp) (Ev.step (fun k => by simp only [head_Parse.j2]; rfl) (Ev.pos (by trivial) (Ev.ret rfl)))
    | true =>
      refine Ev.pos rfl (Ev.bind tk ?_)
      cases htk : tokOk nm with
      | false =>
        rw [if_neg (by simp)]
        exact Ev.neg (by simp) (Ev.step (fun k => by simp only [head_Parse.j2]; rfl) (Ev.pos (by trivial) (Ev.ret rfl)))
      | true =>
        refine Ev.pos rfl (Ev.bind vl ?_)
        cases hvl : valOk v with
        | false =>
          rw [if_neg (by simp)]
          exact Ev.step (fun k => by simp only [head_Parse.j2]; rfl) (Ev.pos (by trivial) (Ev.ret rfl))
        | true =>
          rw [if_pos ⟨rfl, rfl, rfl⟩]
          show Ev _ (if nm.map lowB = hostL then (if (hostS v).2 = true then loopS E m p q hh ls (n + 1) (hostS v).1 (acc ++ [(nm.map lowB, v)]) else errR 4) else loopS E m p q hh ls n ho (acc ++ [(nm.map lowB, v)]))
          refine Ev.step (fun k => by simp only [head_Parse.j2]; rfl) ?_
          refine Ev.neg (by decide) (Ev.call lo (Ev.pos (by omega) (Ev.put (Ev.call lo ?_))))
          have hsnoc : acc.map sF ++ [⟨B (nm.map lowB), B v⟩] = (acc ++ [(nm.map lowB, v)]).map sF := by simp [sF]
          rw [hsnoc]
          by_cases hq : nm.map lowB = hostL
          · rw [if_pos hq]
            refine Ev.pos (by rw [B_toList]; exact hq) (Ev.bind hx ?_)
            cases hb : (hostS v).2 with
            | false =>
              rw [if_neg (by simp)]
              exact Ev.neg (by show ¬ (hostR v).2 = true; unfold hostR; simp [hb]) (Ev.ret rfl)
            | true =>
              rw [if_pos rfl]
              refine Ev.pos (by show (hostR v).2 = true; exact hb) ?_
              have h := ih (pre ++ [B ln]) (n + 1) (hostS v).1 (acc ++ [(nm.map lowB, v)]) hl' hg' hn1 hac2
              rw [hw1, hw2]
              exact h
          · rw [if_neg hq]
            refine Ev.neg (by rw [B_toList]; exact hq) ?_
            have h := ih (pre ++ [B ln]) n ho (acc ++ [(nm.map lowB, v)]) hl' hg' hn0 hac2
            rw [hw1]
            exact h
def httpL : List UInt8 := [104, 116, 116, 112, 58, 47, 47]
def endS (p q hh : List UInt8) : List UInt8 × List UInt8 × List UInt8 × Bool := (p, q, hh, pathL p && suchL true q)
def farS (rest q : List UInt8) : List UInt8 × List UInt8 × List UInt8 × Bool :=
  let k := Lib.indexByte rest 47
  let ho := if k < 0 then rest else rest.take k.toNat
  let pp := if k < 0 then [47] else rest.drop k.toNat
  if (hostS ho).2 = true then endS pp q (hostS ho).1 else ([], [], [], false)
def targetS (t : List UInt8) : List UInt8 × List UInt8 × List UInt8 × Bool :=
  if Lib.hasPrefix (Lib.cut t [63]).1 httpL = true then farS (Lib.trimPrefix (Lib.cut t [63]).1 httpL) (Lib.cut t [63]).2.1
  else endS (Lib.cut t [63]).1 (Lib.cut t [63]).2.1 []
def tR (x : List UInt8 × List UInt8 × List UInt8 × Bool) : ByteArray × ByteArray × ByteArray × Bool := (B x.1, B x.2.1, B x.2.2.1, x.2.2.2)
theorem end_is (p q hh : List UInt8) (hp : p.length ≤ 1000000000) (hq : q.length ≤ 1000000000) : Ev (fun k => (head_path.f k (B p)).bind fun t137 => if t137 = true then ((head_such.f k (B q) true).bind fun t138 => (some (B p, B q, B hh, t138))) else (some (B p, B q, B hh, false))) (tR (endS p q hh)) := by
  refine Ev.bind (path_is p (by omega)) ?_
  unfold tR endS
  cases pathL p with
  | false => exact Ev.neg (by simp) (Ev.ret rfl)
  | true => exact Ev.pos rfl (Ev.bind (such_is true q (by omega)) (Ev.ret rfl))
theorem far_is (pp q ho : List UInt8) (hp : pp.length ≤ 1000000000) (hq : q.length ≤ 1000000000) (hh : ho.length ≤ 1000000000) : Ev (fun k => head_target.j0 k (B pp) (B q) (B ho)) (tR (if (hostS ho).2 = true then endS pp q (hostS ho).1 else ([], [], [], false))) := by
  refine Ev.step (fun k => by simp only [head_target.j0]; rfl) (Ev.bind (host_is ho hh) ?_)
  by_cases h : (hostS ho).2 = true
  · rw [if_pos h]
    exact Ev.pos h (end_is pp q (hostS ho).1 hp hq)
  · rw [if_neg h]
    exact Ev.neg h (Ev.ret rfl)
theorem targetS_is (t : List UInt8) (ht : t.length ≤ 1000000000) : Ev (fun k => head_target.f k (B t)) (tR (targetS t)) := by
  have hc : strings_Cut.f (B t) (⟨#[63]⟩ : ByteArray) = some (B (Lib.cut t [63]).1, B (Lib.cut t [63]).2.1, (Lib.cut t [63]).2.2) := Cut_is t [63] (by omega)
  obtain ⟨l1, l2⟩ := cut_le t [63]
  have hx : strings_CutPrefix.f (B (Lib.cut t [63]).1) (⟨#[104, 116, 116, 112, 58, 47, 47]⟩ : ByteArray) = some (B (Lib.trimPrefix (Lib.cut t [63]).1 httpL), Lib.hasPrefix (Lib.cut t [63]).1 httpL) := by
    unfold strings_CutPrefix.f
    rw [B_list]
    rfl
  have hl := Lib.trimPrefix_le (Lib.cut t [63]).1 httpL
  unfold head_target.f targetS
  refine Ev.call hc (Ev.call hx ?_)
  generalize (Lib.cut t [63]).1 = p at *
  generalize (Lib.cut t [63]).2.1 = q at *
  by_cases h : Lib.hasPrefix p httpL = true
  · rw [if_pos h]
    refine Ev.pos h ?_
    generalize Lib.trimPrefix p httpL = rest at *
    have hb : strings_IndexByte.f (B rest) 47 = some (Lib.indexByte rest 47) := by
      unfold strings_IndexByte.f
      rw [B_list]
      rfl
    refine Ev.call hb ?_
    unfold farS
    simp only
    by_cases hk : Lib.indexByte rest 47 < 0
    · refine Ev.pos hk ?_
      rw [if_pos hk, if_pos hk]
      exact far_is [47] q rest (by simp) (by omega) (by omega)
    · have hk1 : Lib.indexByte rest 47 ≤ rest.length := by
        obtain ⟨o, ho⟩ : ∃ o : Nat, Lib.indexByte rest 47 = o := ⟨(Lib.indexByte rest 47).toNat, by omega⟩
        have h1 := (Lib.indexByte_some ho).1
        have h2 := (List.getElem?_eq_some_iff.1 h1).1
        omega
      refine Ev.neg hk (Ev.pos (by omega) (Ev.pos (by rw [B_size]; exact hk1) ?_))
      rw [if_neg hk, if_neg hk, B_size, B_extract, B_extract]
      have e1 : (rest.drop (Lib.indexByte rest 47).toNat).take (rest.length - (Lib.indexByte rest 47).toNat) = rest.drop (Lib.indexByte rest 47).toNat := List.take_of_length_le (by simp)
      rw [e1, List.drop_zero, Nat.sub_zero]
      exact far_is _ q _ (by simp; omega) (by omega) (by simp; omega)
  · rw [if_neg h]
    exact Ev.neg h (end_is p q [] (by omega) (by omega))
def headS (e : Int) (ls : List (List UInt8)) : HR :=
  let c := Lib.cut (ls.headD []) [32]
  let d := Lib.cut c.2.1 [32]
  let t := targetS d.1
  if t.2.2.2 = true ∧ tokOk c.1 = true ∧ d.2.1 = verL then loopS e (B c.1) (B t.1) (B t.2.1) (B t.2.2.1) ls.tail 0 [] [] else errR 4
def parseS (b : List UInt8) : HR :=
  if Lib.index (b.take 2048) [13, 10, 13, 10] < 0 then (if b.length < 2048 then errR 3 else errR 6) else headS (Lib.index (b.take 2048) [13, 10, 13, 10]) (Lib.split (b.take (Lib.index (b.take 2048) [13, 10, 13, 10]).toNat) [13, 10])
theorem splitK_ne (sub : List UInt8) (k : Nat) (s : List UInt8) : Lib.splitK sub 0 k s ≠ [] := by
  cases k with
  | zero => simp [Lib.splitK]
  | succ k =>
    simp only [Lib.splitK]
    split <;> simp
theorem split_ne (s sub : List UInt8) : Lib.split s sub ≠ [] := splitK_ne _ _ _
theorem parseS_is (b : List UInt8) : Ev (fun k => head_Parse.f k (bytesOf (B b))) (parseS b) := by
  have hl : (b.map (fun x => (x.toNat : Int))).length = b.length := List.length_map ..
  obtain ⟨M, hM, hM1, hM2⟩ : ∃ M : Nat, mn (b.length : Int) 2048 = (M : Int) ∧ M ≤ b.length ∧ b.take M = b.take 2048 := by
    unfold mn
    split
    · exact ⟨2048, rfl, by omega, rfl⟩
    · refine ⟨b.length, rfl, Nat.le_refl _, ?_⟩
      rw [List.take_of_length_le (Nat.le_refl _), List.take_of_length_le (by omega)]
  unfold head_Parse.f
  rw [N8_B, hl, hM]
  refine Ev.pos (by omega) (Ev.pos (by omega) ?_)
  rw [Int.toNat_natCast, ← List.map_take, hM2]
  have hix : bytes_Index.f ((b.take 2048).map (fun b => (b.toNat : Int))) ([13, 10, 13, 10] : List Int) = some (Lib.index (b.take 2048) [13, 10, 13, 10]) := by
    rw [show ([13, 10, 13, 10] : List Int) = ([13, 10, 13, 10] : List UInt8).map (fun b => (b.toNat : Int)) from rfl, Index_is _ _ (by rw [List.length_take]; omega) (by decide) (by decide)]
  refine Ev.call hix ?_
  have hroom := Lib.index_room (b.take 2048) [13, 10, 13, 10]
  rw [List.length_take] at hroom
  unfold parseS
  generalize Lib.index (b.take 2048) [13, 10, 13, 10] = e at *
  by_cases he : e < 0
  · rw [if_pos he]
    refine Ev.pos he ?_
    by_cases h2 : b.length < 2048
    · rw [if_pos h2]
      exact Ev.pos (by omega) (Ev.ret rfl)
    · rw [if_neg h2]
      exact Ev.neg (by omega) (Ev.ret rfl)
  · rw [if_neg he]
    have hr := hroom (by omega)
    simp only [List.length_cons, List.length_nil] at hr
    refine Ev.neg he (Ev.pos (by omega) (Ev.pos (by omega) ?_))
    rw [← List.map_take, strOf_N8]
    have htl : (b.take e.toNat).length ≤ 2048 := by rw [List.length_take]; omega
    generalize b.take e.toNat = s at *
    have hsp : strings_Split.f (B s) (⟨#[13, 10]⟩ : ByteArray) = some ((Lib.split s [13, 10]).map B) := Split_is s [13, 10] (by omega) (by decide)
    refine Ev.call hsp ?_
    obtain ⟨n1, n2⟩ := split_len s [13, 10]
    have hne := split_ne s [13, 10]
    generalize Lib.split s [13, 10] = ls at *
    cases ls with
    | nil => exact absurd rfl hne
    | cons ln ls =>
      have hlen : (((ln :: ls).map B).length : Int) = ls.length + 1 := by simp
      refine Ev.pos (by rw [hlen]; omega) ?_
      have hrd : rdOf ByteArray.empty ((ln :: ls).map B) 0 = B ln := by simp [rdOf]
      rw [hrd]
      have hln := n2 ln (by simp)
      have hls : ls.length ≤ 2050 := by simp at n1; omega
      obtain ⟨a1, a2⟩ := cut_le ln [32]
      have c1 : strings_Cut.f (B ln) (⟨#[32]⟩ : ByteArray) = some (B (Lib.cut ln [32]).1, B (Lib.cut ln [32]).2.1, (Lib.cut ln [32]).2.2) := Cut_is ln [32] (by omega)
      unfold headS
      rw [show (ln :: ls).headD [] = ln from rfl, show (ln :: ls).tail = ls from rfl]
      generalize hm : (Lib.cut ln [32]).1 = m at *
      generalize hr2 : (Lib.cut ln [32]).2.1 = rest at *
      obtain ⟨b1, b2⟩ := cut_le rest [32]
      have c2 : strings_Cut.f (B rest) (⟨#[32]⟩ : ByteArray) = some (B (Lib.cut rest [32]).1, B (Lib.cut rest [32]).2.1, (Lib.cut rest [32]).2.2) := Cut_is rest [32] (by omega)
      refine Ev.call c1 (Ev.call c2 ?_)
      simp only
      rw [hm, hr2]
      generalize (Lib.cut rest [32]).1 = t at *
      generalize (Lib.cut rest [32]).2.1 = ver at *
      refine Ev.bind (targetS_is t (by omega)) ?_
      have hbad : ∀ (x : ByteArray × ByteArray × ByteArray × Bool), Ev (fun k => head_Parse.j0 k e ((ln :: ls).map B) 0 1 (⟨#[]⟩ : ByteArray) (B m) true (⟨#[]⟩ : ByteArray) x.1 x.2.1 x.2.2.1) (errR 4) := fun x => Ev.step (fun k => by simp only [head_Parse.j0]; rfl) (Ev.pos (by trivial) (Ev.ret rfl))
      by_cases ht : (targetS t).2.2.2 = true
      · refine Ev.pos ht (Ev.bind (token_is m (by omega)) ?_)
        by_cases hm2 : tokOk m = true
        · refine Ev.pos hm2 ?_
          rw [B_toList]
          by_cases hv : ver = verL
          · rw [if_pos ⟨ht, hm2, hv⟩, show (ver != ([72, 84, 84, 80, 47, 49, 46, 49] : List UInt8)) = false by rw [hv]; decide]
            have h := loopS_is e (by omega) (B m) (B (targetS t).1) (B (targetS t).2.1) (B (targetS t).2.2.1) ((ln :: ls).map B) (by simp; omega) ls [B ln] 0 [] [] (by simp) (fun l hl => by have := n2 l (by simp [hl]); omega) (by omega) (by simp)
            exact Ev.step (fun k => by simp only [head_Parse.j0]; rfl) (Ev.neg (by simp) h)
          · rw [if_neg (fun h => hv h.2.2), show (ver != ([72, 84, 84, 80, 47, 49, 46, 49] : List UInt8)) = true by simpa [verL] using hv]
            exact hbad (tR (targetS t))
        · rw [if_neg (fun h => hm2 h.2.1)]
          exact Ev.neg hm2 (hbad (tR (targetS t)))
      · rw [if_neg (fun h => ht h.1)]
        exact Ev.neg ht (hbad (tR (targetS t)))
end Go.Proofs.YtabkdmfnafeaeaaDoor.HP
end
section
namespace Go.Proofs.YtabkdmfnafeaeaaDoor.HP
open Go.RowKit Go.Proofs.YtabkdmfnafeaeaaDoor.S Go.Proofs.YtabkdmfnafeaeaaDoorW.PrintWords Go.Proofs.YtabkdmfnafeaeaaDoorW.PrintLast Go.Proofs.YtabkdmfnafeaeaaDoorW.PrintMore
theorem bytes_in (l : List Int) (h : ∀ x ∈ l, (Lit.int .u8 x).wf = true) : ∃ z : List UInt8, l = bytesOf (B z) := by
  refine ⟨l.map (fun x => UInt8.ofNat x.toNat), ?_⟩
  rw [N8_B, List.map_map]
  conv => lhs; rw [← List.map_id l]
  apply List.map_congr_left
  intro x hx
  have := h x hx
  simp [Lit.wf, IntKind.min, IntKind.max, IntKind.signed, IntKind.bits] at this
  show x = (((UInt8.ofNat x.toNat).toNat : Nat) : Int)
  rw [UInt8.toNat_ofNat']
  omega
theorem loopS_p (E : Int) (m p q hh : ByteArray) : ∀ (ls : List (List UInt8)) (n : Nat) (ho : List UInt8) (acc : List Fd), (loopS E m p q hh ls n ho acc).2.1.size ≤ p.size
  | [], n, ho, acc => by
    show (fin E m p q hh n (B ho) (acc.map sF)).2.1.size ≤ _
    unfold fin
    split
    · split
      · exact Nat.zero_le _
      · exact Nat.le_refl _
    · exact Nat.zero_le _
  | ln :: ls, n, ho, acc => by
    rw [loopS]
    cases lineS ln with
    | none => exact Nat.zero_le _
    | some f =>
      simp only
      split
      · split
        · exact loopS_p E m p q hh ls _ _ _
        · exact Nat.zero_le _
      · exact loopS_p E m p q hh ls _ _ _
theorem far_len (rest q : List UInt8) : (farS rest q).1.length ≤ rest.length + 1 := by
  unfold farS
  by_cases hk : Lib.indexByte rest 47 < 0
  · simp only [hk, if_true]
    split
    · show [(47 : UInt8)].length ≤ _
      simp
    · exact Nat.zero_le _
  · simp only [hk, if_false]
    split
    · show (List.drop _ _).length ≤ _
      rw [List.length_drop]
      omega
    · exact Nat.zero_le _
theorem trimP_len (s p : List UInt8) : (Lib.trimPrefix s p).length ≤ s.length := by
  unfold Lib.trimPrefix
  by_cases h : Lib.hasPrefix s p = true
  · rw [if_pos h, List.length_drop]
    omega
  · rw [if_neg h]
    exact Nat.le_refl _
theorem target_len (t : List UInt8) : (targetS t).1.length ≤ t.length + 1 := by
  have h0 := (cut_le t [63]).1
  unfold targetS
  split
  · have h1 := far_len (Lib.trimPrefix (Lib.cut t [63]).1 httpL) (Lib.cut t [63]).2.1
    have h2 := trimP_len (Lib.cut t [63]).1 httpL
    omega
  · show (Lib.cut t [63]).1.length ≤ _
    omega
theorem path_small (b : List UInt8) : (parseS b).2.1.size ≤ 1000000 := by
  unfold parseS
  split
  · split
    · exact Nat.zero_le _
    · exact Nat.zero_le _
  · unfold headS
    simp only
    split
    · refine Nat.le_trans (loopS_p _ _ _ _ _ _ _ _ _) ?_
      rw [B_size]
      refine Nat.le_trans (target_len _) ?_
      have h1 := (cut_le (Lib.cut ((Lib.split (b.take (Lib.index (b.take 2048) [13, 10, 13, 10]).toNat) [13, 10]).headD []) [32]).2.1 [32]).1
      have h2 := (cut_le ((Lib.split (b.take (Lib.index (b.take 2048) [13, 10, 13, 10]).toNat) [13, 10]).headD []) [32]).2
      have hroom := Lib.index_room (b.take 2048) [13, 10, 13, 10]
      rw [List.length_take] at hroom
      rename_i hc he
      have hr := hroom (by omega)
      simp only [List.length_cons, List.length_nil] at hr
      have h3 : ((Lib.split (b.take (Lib.index (b.take 2048) [13, 10, 13, 10]).toNat) [13, 10]).headD []).length ≤ 2048 := by
        obtain ⟨_, n2⟩ := split_len (b.take (Lib.index (b.take 2048) [13, 10, 13, 10]).toNat) [13, 10]
        have hne := split_ne (b.take (Lib.index (b.take 2048) [13, 10, 13, 10]).toNat) [13, 10]
        generalize Lib.split (b.take (Lib.index (b.take 2048) [13, 10, 13, 10]).toNat) [13, 10] = ls at *
        cases ls with
        | nil => exact absurd rfl hne
        | cons ln ls =>
          have := n2 ln (by simp)
          rw [List.length_take] at this
          show ln.length ≤ _
          omega
      omega
    · exact Nat.zero_le _
end Go.Proofs.YtabkdmfnafeaeaaDoor.HP
namespace Go.Proofs.YtabkdmfnafeaeaaDoor.PP
open Go.RowKit Go.Proofs.YtabkdmfnafeaeaaDoor.S Go.Proofs.YtabkdmfnafeaeaaDoorW.PrintWords Go.Proofs.YtabkdmfnafeaeaaDoorW.PrintLast Go.Proofs.YtabkdmfnafeaeaaDoorW.PrintMore Go.Proofs.YtabkdmfnafeaeaaDoor.FL
theorem wf_lt {b : Nat} (h : (Lit.float .f64 b).wf = true) : b < 18446744073709551616 := by
  simpa [Lit.wf] using h
theorem pick_at (t : Nat) (S : Nat → Nat) (d x : Nat) : ∀ (l : List S69) (i last : Nat), (pick t S d x l i last = last ∧ ∀ y ∈ l, cntW t y.f1 = 0) ∨ ∃ j y, l[j]? = some y ∧ 0 < cntW t y.f1 ∧ pick t S d x l i last = i + j
  | [], i, last => Or.inl ⟨rfl, by simp⟩
  | y :: l, i, last => by
    unfold pick
    by_cases h1 : 0 < cntW t y.f1
    · rw [if_pos h1]
      split
      · exact Or.inr ⟨0, y, rfl, h1, rfl⟩
      · rcases pick_at t S d x l (i + 1) i with ⟨e, _⟩ | ⟨j, z, hz, hc, e⟩
        · exact Or.inr ⟨0, y, rfl, h1, by rw [e]; rfl⟩
        · exact Or.inr ⟨j + 1, z, hz, hc, by rw [e]; omega⟩
    · rw [if_neg h1]
      rcases pick_at t S d x l (i + 1) last with ⟨e, he⟩ | ⟨j, z, hz, hc, e⟩
      · refine Or.inl ⟨e, fun z hz => ?_⟩
        rcases List.mem_cons.1 hz with rfl | hz
        · omega
        · exact he z hz
      · exact Or.inr ⟨j + 1, z, hz, hc, by rw [e]; omega⟩
theorem weigh_at (l : List S69) (hl : l.length ≤ 200) (d : Nat) : (weighF l d = (0, false) ∧ ¬ ∃ y ∈ l, 0 < y.f1 ∧ y.f1 < INF) ∨ ∃ j : Nat, weighF l d = ((j : Int), true) ∧ j < l.length ∧ 0 < (rd_T69 l (j : Int)).f1 ∧ (rd_T69 l (j : Int)).f1 < INF ∧ ∃ y ∈ l, 0 < y.f1 ∧ y.f1 < INF := by
  unfold weighF
  by_cases h : 0 < allW l
  · rw [if_pos h]
    have hex := (all_pos l hl).1 h
    rcases pick_at (TT l) (fun i => sumAt (TT l) (l.take (i + 1))) (eff d) (prodS (eff d) (allW l)) l 0 0 with ⟨_, he⟩ | ⟨j, y, hy, hc, e⟩
    · exfalso
      have := sum_zero (TT l) l he
      unfold allW at h
      omega
    · obtain ⟨hj, hy2⟩ := List.getElem?_eq_some_iff.1 hy
      have hrd : rd_T69 l (j : Int) = y := by
        simp [rd_T69, List.getD_eq_getElem?_getD, hy]
      obtain ⟨c1, c2⟩ := cntW_pos hc
      exact Or.inr ⟨j, by rw [e, Nat.zero_add], hj, by rw [hrd]; exact c1, by rw [hrd]; exact c2, hex⟩
  · rw [if_neg h]
    exact Or.inl ⟨rfl, fun hx => h ((all_pos l hl).2 hx)⟩
theorem fold_false (h s : ByteArray) : ∀ (l : List S93) (a : Found), (l.foldl (findStep h s) a).2.2.2 = false → l.foldl (findStep h s) a = a
  | [], _, _ => rfl
  | x :: l, a, hf => by
    have e := fold_false h s l (findStep h s a x) hf
    rw [List.foldl_cons] at hf ⊢
    rw [e] at hf ⊢
    unfold findStep at hf ⊢
    split
    · rename_i h1
      rw [if_pos h1] at hf
      split
      · rename_i h2
        rw [if_pos h2] at hf
        split
        · rename_i h3
          rw [if_pos h3] at hf
          cases hf
        · rfl
      · rename_i h2
        rw [if_neg h2] at hf
        cases hf
    · rfl
theorem found_none {h s : ByteArray} {l : List S93} (hf : (findF h s l).2.2.2 = false) : findF h s l = nofound := fold_false h s l nofound hf
theorem found_some {h s : ByteArray} {l : List S93} (hf : (findF h s l).2.2.2 = true) : l ≠ [] := by
  rintro rfl
  cases hf
theorem fndP_of {l : List S67} {i : Nat} (hi : i < l.length) {pool : ByteArray} (hp : (rd_T67 l (i : Int)).f0.toList == pool.toList) {j : Nat} (hj : j < (rd_T67 l (i : Int)).f1.length) : fndP l pool (rd_T69 (rd_T67 l (i : Int)).f1 (j : Int)).f0 = true := by
  unfold fndP
  rw [List.any_eq_true]
  refine ⟨_, List.mem_of_getElem? (idx_rd l i hi), ?_⟩
  unfold fndT
  rw [hp, Bool.true_and, List.any_eq_true]
  exact ⟨_, List.mem_of_getElem? (idx_rdT _ j hj), beq_self_eq_true _⟩
theorem idxP_name (pool : ByteArray) : ∀ (l : List S67) (i : Nat) (j : Nat), idxP pool l (i : Int) = (j : Int) → ∃ d, j = i + d ∧ d < l.length ∧ (rd_T67 l (d : Int)).f0.toList == pool.toList
  | [], i, j, h => by
    unfold idxP at h
    omega
  | x :: l, i, j, h => by
    unfold idxP at h
    split at h
    · rename_i h1
      refine ⟨0, by omega, by simp, ?_⟩
      exact h1
    · have h2 : idxP pool l ((i + 1 : Nat) : Int) = (j : Int) := by rw [← h]; rfl
      obtain ⟨d, e, hd, hn⟩ := idxP_name pool l (i + 1) j h2
      refine ⟨d + 1, by omega, by simpa using hd, ?_⟩
      have e2 : rd_T67 (x :: l) ((d + 1 : Nat) : Int) = rd_T67 l (d : Int) := rfl
      rw [e2]
      exact hn
theorem serve_is (v : Int) (f1 : List S93) (f2 : List S67) (b : List UInt8) (d : Nat) (hl : f1.length ≤ 200) (hp : f2.length ≤ 200) (ht : ∀ p ∈ f2, p.f1.length ≤ 200) (hw : ∀ p ∈ f2, ∀ y ∈ p.f1, y.f1 < 18446744073709551616) (hd : d < 18446744073709551616) :
    ∃ r, Ev (fun k => plane_Serve.f k v f1 f2 (bytesOf (HP.B b)) d) r ∧ r.2.1 = v ∧
      (((r.1 = 400 ∨ r.1 = 404) ∧ r.2.2.1 = ⟨#[]⟩ ∧ r.2.2.2 = ⟨#[]⟩) ∨ (f1 ≠ [] ∧ r.1 = 503 ∧ r.2.2.2 = ⟨#[]⟩) ∨ (f1 ≠ [] ∧ r.1 = 200 ∧ fndP f2 r.2.2.1 r.2.2.2 = true)) := by
  have hP := HP.parseS_is b
  have hs := HP.path_small b
  generalize HP.parseS b = x at *
  obtain ⟨m, p, q, hh, fs, n, er⟩ := x
  simp only at hs
  by_cases he : er = 0
  · have hF := Find_is v f1 f2 hh p (by omega) (by omega)
    cases hf : (findF hh p f1).2.2.2 with
    | false =>
      refine ⟨(404, v, ⟨#[]⟩, ⟨#[]⟩), ?_, rfl, .inl ⟨.inr rfl, rfl, rfl⟩⟩
      refine Ev.bind hP (Ev.pos he (Ev.bind hF ?_))
      rw [found_none hf]
      exact Ev.neg (by simp [nofound]) (Ev.ret rfl)
    | true =>
      have hne := found_some hf
      generalize findF hh p f1 = F at *
      obtain ⟨s1, s2, pool, ok⟩ := F
      simp only at hf
      rcases idxP_in pool f2 0 with hi | ⟨hi0, hi1⟩
      · refine ⟨(503, v, pool, ⟨#[]⟩), ?_, rfl, .inr (.inl ⟨hne, rfl, rfl⟩)⟩
        exact Ev.bind hP (Ev.pos he (Ev.bind hF (Ev.pos hf (Ev.pos (show idxP pool f2 0 < 0 by omega) (Ev.pos (by omega) (Ev.ret rfl))))))
      · obtain ⟨i, hi⟩ : ∃ i : Nat, idxP pool f2 0 = (i : Int) := ⟨(idxP pool f2 0).toNat, by omega⟩
        have hin : i < f2.length := by omega
        obtain ⟨i', e', _, hname⟩ := idxP_name pool f2 0 i hi
        have e'' : i' = i := by omega
        subst e''
        have hmem := List.mem_of_getElem? (idx_rd f2 i' hin)
        have hW := Weigh_is (rd_T67 f2 (i' : Int)).f1 (ht _ hmem) (hw _ hmem) d hd
        rcases weigh_at (rd_T67 f2 (i' : Int)).f1 (ht _ hmem) d with ⟨hwf, _⟩ | ⟨j, hwf, hj, _⟩
        · refine ⟨(503, v, pool, ⟨#[]⟩), ?_, rfl, .inr (.inl ⟨hne, rfl, rfl⟩)⟩
          refine Ev.bind hP (Ev.pos he (Ev.bind hF (Ev.pos hf (Ev.neg (show ¬ idxP pool f2 0 < 0 by omega) ?_))))
          simp only [hi]
          refine Ev.bind hW ?_
          rw [hwf]
          exact Ev.neg (by simp) (Ev.pos (by omega) (Ev.ret rfl))
        · refine ⟨(200, v, pool, (rd_T69 (rd_T67 f2 (i' : Int)).f1 (j : Int)).f0), ?_, rfl, .inr (.inr ⟨hne, rfl, fndP_of hin hname hj⟩)⟩
          refine Ev.bind hP (Ev.pos he (Ev.bind hF (Ev.pos hf (Ev.neg (show ¬ idxP pool f2 0 < 0 by omega) ?_))))
          simp only [hi]
          refine Ev.bind hW ?_
          rw [hwf]
          exact Ev.pos rfl (Ev.pos ⟨by omega, by omega, by omega⟩ (Ev.ret rfl))
  · refine ⟨(400, v, ⟨#[]⟩, ⟨#[]⟩), ?_, rfl, .inl ⟨.inl rfl, rfl, rfl⟩⟩
    exact Ev.bind hP (Ev.neg he (Ev.ret rfl))
end Go.Proofs.YtabkdmfnafeaeaaDoor.PP
end
section
namespace Go.Proofs.YtabkdmfnafeaeaaDoor.Pure
open Go.RowKit Go.Proofs.YtabkdmfnafeaeaaDoor.S Go.Proofs.YtabkdmfnafeaeaaDoor.PP Go.Proofs.YtabkdmfnafeaeaaDoorW.PrintWords Go.Proofs.YtabkdmfnafeaeaaDoorW.PrintLast Go.Proofs.YtabkdmfnafeaeaaDoorW.PrintMore Go.Proofs.YtabkdmfnafeaeaaDoor.FL
theorem ok_weights {y : S55} (h : ok55 y) : ∀ p ∈ y.f2, ∀ t ∈ p.f1, t.f1 < 18446744073709551616 := fun p hp t ht => wf_lt ((h.2.2 p hp).2 t ht).2
theorem small_of {f1 : List S93} {f2 : List S67} (h : f1.length ≤ 200 ∧ f2.length ≤ 200 ∧ ∀ p ∈ f2, p.f1.length ≤ 200) : smallC f1 f2 := ⟨by omega, by omega, fun x hx => Nat.le_trans (h.2.2 x hx) (by omega)⟩
end Go.Proofs.YtabkdmfnafeaeaaDoor.Pure
end
section
open Go Go.Proofs.YtabkdmfnafeaeaaDoor.S in
def _root_.Go.Proofs.YtabkdmfnafeaeaaDoor.S.tollgatelaw10_PlaneAny.Pure2 : Prop := ∀ (y0 : S55) (l1 : List Int) (a2 : Nat), ok55 y0 → (∀ y ∈ l1, (Lit.int .u8 y).wf = true) → (Lit.float .f64 a2).wf = true → ∃ k, tollgatelaw10_PlaneAny.f k y0.f0 y0.f1 y0.f2 l1 a2 = some true
namespace Go.Proofs.YtabkdmfnafeaeaaDoor.Pure
open Go.RowKit Go.Proofs.YtabkdmfnafeaeaaDoor.S Go.Proofs.YtabkdmfnafeaeaaDoor.PP Go.Proofs.YtabkdmfnafeaeaaDoorW.PrintWords Go.Proofs.YtabkdmfnafeaeaaDoorW.PrintLast Go.Proofs.YtabkdmfnafeaeaaDoorW.PrintMore Go.Proofs.YtabkdmfnafeaeaaDoor.FL
theorem Ev.const' {α : Type} {x : Option α} {r : α} (h : x = some r) : Ev (fun _ => x) r := by rw [h]; exact Ev.now r
theorem PlaneAny : tollgatelaw10_PlaneAny.Pure2 := by
  intro y0 l1 a2 h0 hl hd
  refine Ev.rounds (r := true) ?_
  unfold tollgatelaw10_PlaneAny.f
  obtain ⟨s1, hs1, hb1⟩ := short_is y0.f0 y0.f1 y0.f2
  refine Ev.bind hs1 ?_
  cases s1 with
  | false => exact Ev.neg (by simp) live_is
  | true =>
    refine Ev.pos rfl ?_
    by_cases h3 : l1.length ≤ 5000
    · refine Ev.pos h3 ?_
      obtain ⟨a1, a2', a3⟩ := hb1 rfl
      refine Ev.pos (small_of ⟨a1, a2', a3⟩) (Ev.bind live_is (Ev.pos rfl ?_))
      obtain ⟨b, hb⟩ := HP.bytes_in l1 hl
      rw [hb]
      by_cases h4 : 0 < y0.f0
      · refine Ev.pos h4 ?_
        obtain ⟨r, hr, hv, hk⟩ := serve_is y0.f0 y0.f1 y0.f2 b a2 a1 a2' a3 (ok_weights h0) (wf_lt hd)
        refine Ev.bind hr (Ev.const' ?_)
        unfold anyRest
        rcases hk with ⟨e1, e2, e3⟩ | ⟨_, e1, e2⟩ | ⟨_, e1, e2⟩
        · rw [if_pos e1, if_pos ⟨e2, e3⟩]
        · rw [if_neg (by omega), if_pos e1, if_pos rfl, if_pos e2]
        · rw [if_neg (by omega), if_neg (by omega), if_pos rfl, if_pos ⟨e1, e2⟩]
      · refine Ev.neg h4 ?_
        obtain ⟨r, hr, hv, hk⟩ := serve_is 0 [] [] b a2 (by simp) (by simp) (by simp) (by simp) (wf_lt hd)
        refine Ev.bind hr (Ev.const' ?_)
        unfold anyRest
        rcases hk with ⟨e1, e2, e3⟩ | ⟨e0, _⟩ | ⟨e0, _⟩
        · rw [if_pos e1, if_pos ⟨e2, e3⟩]
        · exact absurd rfl e0
        · exact absurd rfl e0
    · exact Ev.neg h3 live_is
end Go.Proofs.YtabkdmfnafeaeaaDoor.Pure
end
