/- Walks and plain facts, joined out of several texts: what the row of PlaneServes leads to. -/
import Derived.Test.YtahaihnlkohhgaaGreatDoorPkPlaneServes7
import Derived.Lib.CountLaws
import Derived.Lib.IndexLaws
import Derived.Lib.Split
import Derived.Laws.FloatBits
section
namespace Go.Proofs.YtahaihnlkohhgaaGreatDoor.HP
open Go.RowKit Go.Proofs.YtahaihnlkohhgaaGreatDoor.S Go.Proofs.YtahaihnlkohhgaaGreatDoorW.PrintWords Go.Proofs.YtahaihnlkohhgaaGreatDoorW.PrintLast Go.Proofs.YtahaihnlkohhgaaGreatDoorW.PrintMore
theorem Ev.pos {α : Type} {c : Prop} [Decidable c] {a b : Nat → Option α} {r : α} (hc : c) (h : Ev a r) : Ev (fun k => if c then a k else b k) r := Ev.congr (fun _ => zp hc) h
theorem Ev.neg {α : Type} {c : Prop} [Decidable c] {a b : Nat → Option α} {r : α} (hc : ¬ c) (h : Ev b r) : Ev (fun k => if c then a k else b k) r := Ev.congr (fun _ => zn hc) h
theorem Ev.put {α β : Type} {x : β} {f : Nat → β → Option α} {r : α} (h : Ev (fun k => f k x) r) : Ev (fun k => (some x).bind (f k)) r := h
theorem Ev.call {α β : Type} {g : Option β} {x : β} {f : Nat → β → Option α} {r : α} (hg : g = some x) (h : Ev (fun k => f k x) r) : Ev (fun k => g.bind (f k)) r := by rw [hg]; exact h
theorem Ev.ret {α : Type} {a r : α} (h : a = r) : Ev (fun _ => some a) r := by rw [h]; exact Ev.now _
def B (l : List UInt8) : ByteArray := ⟨l.toArray⟩
theorem B_list (l : List UInt8) : (B l).data.toList = l := by simp [B]
theorem B_of (s : ByteArray) : B s.data.toList = s := by simp [B]
theorem B_size (l : List UInt8) : (B l).size = l.length := by simp [B, ByteArray.size]
theorem B_append (a b : List UInt8) : B a ++ B b = B (a ++ b) := by
  rw [← B_of (B a ++ B b)]
  congr 1
theorem B_toList (l : List UInt8) : (B l).toList = l := by rw [Lib.toList_data, B_list]
theorem B_bt (l : List UInt8) (i : Nat) (hi : i < l.length) : bt (B l) (i : Int) = ((l[i]).toNat : Int) := by
  unfold bt;rw [dif_pos (by rw [Int.toNat_natCast, B_size]; exact hi)];simp only [Int.toNat_natCast];rfl
theorem B_extract (l : List UInt8) (i j : Nat) : (B l).extract i j = B ((l.drop i).take (j - i)) := by
  rw [← B_of ((B l).extract i j), Lib.extract_data, B_list]
theorem wrap_succ (i : Nat) (h : i < 9223372036854775807) : wrap64 ((i : Int) + 1) = ((i + 1 : Nat) : Int) := by unfold wrap64; omega
theorem occ_not {s sub : List UInt8} {c : UInt8} {t : List UInt8} (hs : sub = c :: t) (j : Nat) (h : s[j]? ≠ some c) : Lib.occAt s sub j = false := by
  cases ho : Lib.occAt s sub j with
  | false => rfl
  | true => exact absurd (Lib.occAt_head hs ho) h
theorem index_one (a b : List UInt8) (c : UInt8) (ha : c ∉ a) : Lib.index (a ++ c :: b) [c] = (a.length : Int) := by
  refine Lib.index_first (i := a.length) (by simp) ?_ (fun j hj => occ_not rfl j ?_)
  · simp [Lib.occAt]
  rw [List.getElem?_append_left hj];intro h;exact ha (List.mem_of_getElem? h)
theorem index_no (a : List UInt8) (c : UInt8) (t : List UInt8) (ha : c ∉ a) : Lib.index a (c :: t) = -1 := by
  refine Lib.index_none (fun j _ => occ_not rfl j ?_);intro h;exact ha (List.mem_of_getElem? h)
theorem cut_one (a b : List UInt8) (c : UInt8) (ha : c ∉ a) : Lib.cut (a ++ c :: b) [c] = (a, b, true) := by
  unfold Lib.cut;rw [index_one a b c ha, zp zO, Int.toNat_natCast, List.take_left' rfl];simp
theorem cut_no (a : List UInt8) (c : UInt8) (ha : c ∉ a) : Lib.cut a [c] = (a, [], false) := by
  unfold Lib.cut;rw [index_no a c [] ha, zn zO]
theorem Cut_is (s sep : List UInt8) (hs : s.length < 4294967281) : strings_Cut.f (B s) (B sep) = some (B (Lib.cut s sep).1, B (Lib.cut s sep).2.1, (Lib.cut s sep).2.2) := by
  unfold strings_Cut.f;rw [zp (by rw [B_size]; exact hs), B_list, B_list];rfl
theorem Split_is (s sep : List UInt8) (hs : s.length < 4294967281) (h1 : 1 ≤ sep.length) : strings_Split.f (B s) (B sep) = some ((Lib.split s sep).map B) := by
  unfold strings_Split.f;rw [zp ⟨by rw [B_size]; exact hs, by rw [B_size]; exact h1⟩]
  congr 1
  have h := Lib.splitB_data (B sep) 0 (Lib.countB (B s) (B sep)) (B s);rw [B_list, B_list] at h;have hc : Lib.countB (B s) (B sep) = Lib.count s sep := by
    show Lib.count _ _ = _
    rw [B_list, B_list]
  unfold Lib.split;rw [← hc, ← h, List.map_map]
  conv => lhs; rw [← List.map_id (Lib.splitB (B sep) 0 (Lib.countB (B s) (B sep)) (B s))]
  apply List.map_congr_left;intro x _;exact (B_of x).symm
theorem N8_B (l : List UInt8) : bytesOf (B l) = l.map (fun b => (b.toNat : Int)) := by rw [bytesOf, B_list]
theorem N8_back (l : List UInt8) : Lib.bytesOf (l.map (fun b => (b.toNat : Int))) = l := by
  unfold Lib.bytesOf;rw [List.map_map]
  conv => rhs; rw [← List.map_id l]
  apply List.map_congr_left;intro b _;simp
theorem strOf_N8 (l : List UInt8) : strOfNums (l.map (fun b => (b.toNat : Int))) = B l := by
  unfold strOfNums B
  congr 2
  exact N8_back l
theorem N8_all (l : List UInt8) : ((l.map (fun b => (b.toNat : Int))).all fun x => decide (0 ≤ x ∧ x < 256)) = true := by
  rw [List.all_eq_true];intro x hx;obtain ⟨b, _, rfl⟩ := List.mem_map.1 hx;have := b.toNat_lt;exact zt ⟨zO, zO⟩
theorem Index_is (l sub : List UInt8) (hl : l.length < 4294967281) (h2 : 2 ≤ sub.length) (h3 : sub.length ≤ 100) : bytes_Index.f (l.map (fun b => (b.toNat : Int))) (sub.map (fun b => (b.toNat : Int))) = some (Lib.index l sub) := by
  unfold bytes_Index.f;rw [zp ⟨N8_all l, N8_all sub, by rw [List.length_map]; exact hl, by rw [List.length_map]; exact h2, by rw [List.length_map]; omega⟩, N8_back, N8_back]
theorem Lower_is (l : List UInt8) (hl : l.length ≤ 4294967296) : head_lower.f (B l) = some (B (l.map lowB)) := by
  unfold head_lower.f;rw [zp (by rw [B_size]; omega), B_list];rfl
theorem Trim_is (l cs : List UInt8) (hl : l.length ≤ 4294967296) (hc : cs.length ≤ 100) (ha : cs.all (fun b => decide (b.toNat < 128)) = true) : strings_Trim.f (B l) (B cs) = some (B (Lib.trimS l cs)) := by
  unfold strings_Trim.f;rw [zp ⟨by rw [B_size]; omega, by rw [B_size]; omega, by rw [B_list]; exact ha⟩, B_list, B_list];rfl
def alB (b : UInt8) : Bool := decide (97 ≤ b.toNat ∧ b.toNat ≤ 122 ∨ 65 ≤ b.toNat ∧ b.toNat ≤ 90 ∨ 48 ≤ b.toNat ∧ b.toNat ≤ 57)
def tokB (b : UInt8) : Bool := alB b || decide (0 ≤ Lib.indexByte [33, 35, 36, 37, 38, 39, 42, 43, 45, 46, 94, 95, 96, 124, 126] b)
def tokOk (l : List UInt8) : Bool := l.all tokB && (l != [])
theorem alnum_is (b : UInt8) : head_alnum.f (b.toNat : Int) = some (alB b) := by
  unfold head_alnum.f alB
  repeat' split
  all_goals simp only [Option.some.injEq]
  all_goals first
    | (symm; rw [decide_eq_true_eq]; omega)
    | (rw [decide_eq_decide]; omega)
    | (symm; rw [decide_eq_false_iff_not]; omega)
theorem token_loop (l : List UInt8) (hl : l.length ≤ 4294967296) : ∀ (d i : Nat), i + d = l.length → Ev (fun k => head_token.l0 k (B l) (l.length : Int) (i : Int)) ((l.drop i).all tokB && (l != [])) := by
  intro d
  induction d with
  | zero =>
    intro i hi;refine Ev.step (fun k => by simp only [head_token.l0]; rfl) (Ev.neg zO (Ev.ret ?_));rw [B_toList, List.drop_eq_nil_of_le zO];simp
  | succ d ih =>
    intro i hi;have hlt : i < l.length := by omega
    have hw := wrap_succ i zO;have hd : l.drop i = l[i] :: l.drop (i + 1) := List.drop_eq_getElem_cons hlt;have hx : (B l).extract (i : Int).toNat ((i + 1 : Nat) : Int).toNat = B [l[i]] := by
      rw [Int.toNat_natCast, Int.toNat_natCast, B_extract, hd, Nat.add_sub_cancel_left];rfl
    have hi' := ih (i + 1) zO;refine Ev.step (fun k => by simp only [head_token.l0]; rfl) ?_;refine Ev.pos zO (Ev.pos zO (Ev.pos (by rw [B_size]; omega) ?_));rw [B_bt l i hlt, hw];refine Ev.call (alnum_is _) ?_;rw [hd, List.all_cons];cases hA : alB l[i] with
    | true =>
      refine Ev.pos rfl ?_;have ht : tokB l[i] = true := by simp [tokB, hA]
      rw [ht, Bool.true_and];exact hi'
    | false =>
      refine Ev.neg (by simp) (Ev.pos zO (Ev.pos (by rw [B_size]; omega) ?_));rw [hx];have hc : strings_Contains.f (⟨#[33, 35, 36, 37, 38, 39, 42, 43, 45, 46, 94, 95, 96, 124, 126]⟩ : ByteArray) (B [l[i]]) = some (tokB l[i]) := by
        unfold strings_Contains.f;rw [zp (by rw [B_size]; rfl), B_list];simp [tokB, hA]
      refine Ev.call hc ?_;cases ht : tokB l[i] with
      | true => exact Ev.pos rfl (by rw [Bool.true_and]; exact hi')
      | false => exact Ev.neg (by simp) (Ev.ret (by simp))
theorem token_is (l : List UInt8) (hl : l.length ≤ 4294967296) : Ev (fun k => head_token.f k (B l)) (tokOk l) := by
  unfold head_token.f;rw [B_size];exact token_loop l hl l.length 0 zO
def blankB (b : UInt8) : Bool := decide (b.toNat = 9 ∨ b.toNat = 32)
def valB (b : UInt8) : Bool := decide ((b.toNat = 9 ∨ 32 ≤ b.toNat) ∧ b.toNat ≠ 127)
def endsOk (l : List UInt8) : Bool := match l with
  | [] => true
  | x :: r => !blankB x && !blankB ((x :: r).getLastD 0)
def valOk (l : List UInt8) : Bool := l.all valB && endsOk l
theorem blank_is (b : UInt8) : head_blank.f (b.toNat : Int) = some (blankB b) := by
  unfold head_blank.f blankB
  split
  · rename_i h
    simp only [Option.some.injEq]
    symm
    rw [decide_eq_true_eq];omega
  rename_i h
  simp only [Option.some.injEq];rw [show ((b.toNat : Int) == 32) = decide ((b.toNat : Int) = 32) from rfl, decide_eq_decide];omega
theorem value_loop (l : List UInt8) (hl : l.length ≤ 4294967296) : ∀ (d i : Nat), i + d = l.length → Ev (fun k => head_value.l0 k (B l) (l.length : Int) (i : Int)) ((l.drop i).all valB && endsOk l) := by
  intro d
  induction d with
  | zero =>
    intro i hi;refine Ev.step (fun k => by simp only [head_value.l0]; rfl) (Ev.neg zO ?_);rw [B_toList, List.drop_eq_nil_of_le zO, List.all_nil, Bool.true_and];cases hc : l with
    | nil => exact Ev.pos rfl (Ev.ret rfl)
    | cons x r =>
      have hE : endsOk (x :: r) = (!blankB x && !blankB (l.getLastD 0)) := by rw [hc]; rfl
      rw [hE, ← hc];clear hE;have h0 : 0 < l.length := by rw [hc]; simp
      have hb0 : bt (B l) 0 = (x.toNat : Int) := by
        have := B_bt l 0 h0;simpa [hc] using this
      have hw : wrap64 (((B l).size : Int) - 1) = ((l.length - 1 : Nat) : Int) := by rw [B_size]; unfold wrap64; omega
      have hbl : bt (B l) ((l.length - 1 : Nat) : Int) = ((l.getLastD 0).toNat : Int) := by
        rw [B_bt l (l.length - 1) zO]
        congr 2
        rw [List.getLastD_eq_getLast?, List.getLast?_eq_getElem?, zr zO];rfl
      refine Ev.neg (by rw [hc]; simp) (Ev.pos (by rw [B_size]; omega) ?_);rw [hb0];refine Ev.call (blank_is x) ?_;cases hx : blankB x with
      | true => exact Ev.pos rfl (Ev.ret rfl)
      | false =>
        refine Ev.neg (by simp) ?_;rw [hw, hbl];exact Ev.pos zO (Ev.pos (by rw [B_size]; omega) (Ev.call (blank_is _) (Ev.ret (by simp))))
  | succ d ih =>
    intro i hi;have hlt : i < l.length := by omega
    have hw := wrap_succ i zO;have hd : l.drop i = l[i] :: l.drop (i + 1) := List.drop_eq_getElem_cons hlt;have hi' := ih (i + 1) zO;refine Ev.step (fun k => by simp only [head_value.l0]; rfl) ?_;refine Ev.pos zO (Ev.pos zO (Ev.pos (by rw [B_size]; omega) ?_));rw [B_bt l i hlt, hw, hd, List.all_cons];cases hv : valB l[i] with
    | true =>
      have hv' : (l[i].toNat = 9 ∨ 32 ≤ l[i].toNat) ∧ l[i].toNat ≠ 127 := zd hv;rw [Bool.true_and];by_cases h9 : (l[i].toNat : Int) = 9
      · exact Ev.pos h9 (Ev.neg zO hi')
      exact Ev.neg h9 (Ev.neg zO (Ev.neg zO hi'))
    | false =>
      have hv' : ¬ ((l[i].toNat = 9 ∨ 32 ≤ l[i].toNat) ∧ l[i].toNat ≠ 127) := of_decide_eq_false hv;rw [Bool.false_and, Bool.false_and];by_cases h9 : (l[i].toNat : Int) = 9
      · exact absurd hv' zO
      refine Ev.neg h9 ?_;by_cases h32 : (l[i].toNat : Int) < 32
      · exact Ev.pos h32 (Ev.ret rfl)
      exact Ev.neg h32 (Ev.pos zO (Ev.ret rfl))
theorem value_is (l : List UInt8) (hl : l.length ≤ 4294967296) : Ev (fun k => head_value.f k (B l)) (valOk l) := by
  unfold head_value.f;rw [B_size];exact value_loop l hl l.length 0 zO
end Go.Proofs.YtahaihnlkohhgaaGreatDoor.HP
namespace Go.Proofs.YtahaihnlkohhgaaGreatDoor.HP
open Go.RowKit Go.Proofs.YtahaihnlkohhgaaGreatDoor.S Go.Proofs.YtahaihnlkohhgaaGreatDoorW.PrintWords Go.Proofs.YtahaihnlkohhgaaGreatDoorW.PrintLast Go.Proofs.YtahaihnlkohhgaaGreatDoorW.PrintMore
def hostL : List UInt8 := [104, 111, 115, 116]
def verL : List UInt8 := [72, 84, 84, 80, 47, 49, 46, 49]
def low (f : List UInt8 × List UInt8) : List UInt8 := f.1.map lowB
theorem trim_le (l cs : List UInt8) : (Lib.trimS l cs).length ≤ l.length := by
  have dw : ∀ (p : UInt8 → Bool) (l : List UInt8), (l.dropWhile p).length ≤ l.length := fun p l => (List.dropWhile_suffix p).length_le
  unfold Lib.trimS Lib.trimRightS Lib.trimLeftS
  first
    | (have h1 := dw (cs.contains ·) l; have h2 := dw (cs.contains ·) (l.dropWhile (cs.contains ·)).reverse; have h3 := dw (cs.contains ·) l.reverse; have h4 := dw (cs.contains ·) (l.reverse.dropWhile (cs.contains ·)).reverse; simp only [List.length_reverse] at *; omega)
abbrev HR := ByteArray × ByteArray × ByteArray × ByteArray × List S84 × Int × Int
def errR (e : Int) : HR := (B [], B [], B [], B [], [], 0, e)
def fin (E : Int) (m p q hh : ByteArray) (n : Nat) (ho : ByteArray) (fl : List S84) : HR :=
  if n = 1 then (if 32 < fl.length then errR 6 else (m, p, q, if hh.toList = [] then ho else hh, fl, E + 4, 0)) else errR 4
end Go.Proofs.YtahaihnlkohhgaaGreatDoor.HP
namespace Go.Proofs.YtahaihnlkohhgaaGreatDoor.HP
open Go.RowKit Go.Proofs.YtahaihnlkohhgaaGreatDoor.S Go.Proofs.YtahaihnlkohhgaaGreatDoorW.PrintWords Go.Proofs.YtahaihnlkohhgaaGreatDoorW.PrintLast Go.Proofs.YtahaihnlkohhgaaGreatDoorW.PrintMore
def hexB (b : UInt8) : Bool := decide (48 ≤ b.toNat ∧ b.toNat ≤ 57 ∨ 97 ≤ b.toNat ∧ b.toNat ≤ 102 ∨ 65 ≤ b.toNat ∧ b.toNat ≤ 70)
def pchB (b : UInt8) : Bool := alB b || decide (0 ≤ Lib.indexByte [47, 45, 46, 95, 126, 33, 36, 38, 39, 40, 41, 42, 43, 44, 59, 61, 58, 64] b)
def two : List UInt8 → Bool
  | a :: b :: _ => hexB a && hexB b
  | _ => false
theorem two_short : ∀ (l : List UInt8), l.length < 2 → two l = false
  | [], _ => rfl
  | [_], _ => rfl
  | _ :: _ :: _, h => by simp at h; omega
def atB (q : Bool) : List UInt8 → Bool
  | [] => true
  | c :: r => if c.toNat = 37 then two r else if c.toNat = 63 ∧ q = true then true else pchB c
theorem atB_cons (q : Bool) (c : UInt8) (r : List UInt8) : atB q (c :: r) = if c.toNat = 37 then two r else if c.toNat = 63 ∧ q = true then true else pchB c := rfl
def suchL (q : Bool) : List UInt8 → Bool
  | [] => true
  | c :: r => atB q (c :: r) && suchL q r
theorem hex_is (b : UInt8) : head_hex.f (b.toNat : Int) = some (hexB b) := by
  unfold head_hex.f hexB
  repeat' split
  all_goals simp only [Option.some.injEq]
  all_goals first
    | (symm; rw [decide_eq_true_eq]; omega)
    | (rw [decide_eq_decide]; omega)
    | (symm; rw [decide_eq_false_iff_not]; omega)
theorem such_loop (q : Bool) (l : List UInt8) (hl : l.length ≤ 4294967296) : ∀ (d i : Nat), i + d = l.length → Ev (fun k => head_such.l0 k (B l) q (i : Int)) (suchL q (l.drop i)) := by
  intro d
  induction d with
  | zero =>
    intro i hi;refine Ev.step (fun k => by simp only [head_such.l0]; rfl) (Ev.neg (by rw [B_size]; omega) (Ev.ret ?_));rw [List.drop_eq_nil_of_le zO];rfl
  | succ d ih =>
    intro i hi;have hlt : i < l.length := by omega
    have hw := wrap_succ i zO;have hw2 : wrap64 ((i : Int) + 2) = ((i + 2 : Nat) : Int) := by unfold wrap64; omega
    have hd : l.drop i = l[i] :: l.drop (i + 1) := List.drop_eq_getElem_cons hlt;have hi' := ih (i + 1) zO;have hx : (B l).extract (i : Int).toNat ((i + 1 : Nat) : Int).toNat = B [l[i]] := by
      rw [Int.toNat_natCast, Int.toNat_natCast, B_extract, hd, Nat.add_sub_cancel_left];rfl
    have hc : strings_Contains.f (⟨#[47, 45, 46, 95, 126, 33, 36, 38, 39, 40, 41, 42, 43, 44, 59, 61, 58, 64]⟩ : ByteArray) (B [l[i]]) = some (decide (0 ≤ Lib.indexByte [47, 45, 46, 95, 126, 33, 36, 38, 39, 40, 41, 42, 43, 44, 59, 61, 58, 64] l[i])) := by
      unfold strings_Contains.f;rw [zp (by rw [B_size]; rfl), B_list];rfl
    have hws : wrap64 (((B l).size : Int) - (i : Int)) = ((l.length - i : Nat) : Int) := by rw [B_size]; unfold wrap64; omega
    rw [hd]
    show Ev _ (atB q (l[i] :: l.drop (i + 1)) && suchL q (l.drop (i + 1)))
    have hJ2 : l[i].toNat ≠ 37 → ¬ (l[i].toNat = 63 ∧ q = true) → Ev (fun k => head_such.j2 k (B l) q (i : Int) (l[i].toNat : Int)) (atB q (l[i] :: l.drop (i + 1)) && suchL q (l.drop (i + 1))) := by
      intro h37 h63;refine Ev.step (fun k => by simp only [head_such.j2]; rfl) ?_;refine Ev.call (alnum_is _) ?_;have hat : atB q (l[i] :: l.drop (i + 1)) = pchB l[i] := by
        rw [atB_cons, zn h37, zn h63]
      rw [hat, hw];cases hA : alB l[i] with
      | true =>
        have hp : pchB l[i] = true := by simp [pchB, hA]
        rw [hp, Bool.true_and];exact Ev.pos rfl hi'
      | false =>
        refine Ev.neg (by simp) (Ev.pos zO (Ev.pos zO (Ev.pos (by rw [B_size]; omega) ?_)));rw [hx];refine Ev.call hc ?_;cases hD : decide (0 ≤ Lib.indexByte [47, 45, 46, 95, 126, 33, 36, 38, 39, 40, 41, 42, 43, 44, 59, 61, 58, 64] l[i]) with
        | true =>
          have hp : pchB l[i] = true := by simp only [pchB, hD, Bool.or_true]
          rw [hp, Bool.true_and];exact Ev.pos rfl hi'
        | false =>
          have hp : pchB l[i] = false := by simp only [pchB, hA, hD, Bool.or_false]
          rw [hp, Bool.false_and];exact Ev.neg (by simp) (Ev.ret rfl)
    refine Ev.step (fun k => by simp only [head_such.l0]; rfl) ?_;refine Ev.pos (by rw [B_size]; omega) (Ev.pos zO ?_);rw [B_bt l i hlt];by_cases h37 : l[i].toNat = 37;rotate_left
    · refine Ev.neg zO ?_;by_cases h63 : l[i].toNat = 63
      · refine Ev.pos zO ?_;by_cases hq : q = true
        · refine Ev.pos hq ?_;have hat : atB q (l[i] :: l.drop (i + 1)) = true := by
            rw [atB_cons, zn h37, zp ⟨h63, hq⟩]
          rw [hat, Bool.true_and, hw];exact hi'
        exact Ev.neg hq (hJ2 h37 (fun h => hq h.2))
      exact Ev.neg zO (hJ2 h37 (fun h => h63 h.1))
    refine Ev.pos zO ?_;rw [hws];have hat : atB q (l[i] :: l.drop (i + 1)) = two (l.drop (i + 1)) := by
      rw [atB_cons, zp h37]
    rw [hat];by_cases h3 : l.length - i < 3
    · have hF : two (l.drop (i + 1)) = false := two_short _ (by rw [List.length_drop]; omega);rw [hF, Bool.false_and];refine Ev.pos zO ?_;refine Ev.step (fun k => by simp only [head_such.j1]; rfl) ?_;exact Ev.pos (by trivial) (Ev.ret rfl)
    have h1 : i + 1 < l.length := by omega
    have h2 : i + 2 < l.length := by omega
    have hd1 : l.drop (i + 1) = l[i + 1] :: l[i + 2] :: l.drop (i + 3) := by
      rw [List.drop_eq_getElem_cons h1, List.drop_eq_getElem_cons h2]
    have hM : two (l.drop (i + 1)) = (hexB l[i + 1] && hexB l[i + 2]) := by rw [hd1]; rfl
    rw [hM, hw, hw2];refine Ev.neg zO (Ev.pos zO (Ev.pos (by rw [B_size]; omega) ?_));rw [B_bt l (i + 1) h1];refine Ev.call (hex_is _) ?_;cases hA : hexB l[i + 1] with
    | false =>
      refine Ev.neg (by simp) ?_;rw [Bool.false_and, Bool.false_and];refine Ev.step (fun k => by simp only [head_such.j1]; rfl) ?_;exact Ev.pos (by trivial) (Ev.ret rfl)
    | true =>
      refine Ev.pos rfl (Ev.pos zO (Ev.pos (by rw [B_size]; omega) ?_));rw [B_bt l (i + 2) h2];refine Ev.call (hex_is _) ?_;cases hA2 : hexB l[i + 2] with
      | false =>
        rw [Bool.and_false, Bool.false_and];refine Ev.step (fun k => by simp only [head_such.j1]; rfl) ?_;exact Ev.pos (by trivial) (Ev.ret rfl)
      | true =>
        rw [Bool.and_true, Bool.true_and];refine Ev.step (fun k => by simp only [head_such.j1]; rfl) (Ev.neg (by decide) ?_);rw [hw];exact hi'
theorem such_is (q : Bool) (l : List UInt8) (hl : l.length ≤ 4294967296) : Ev (fun k => head_such.f k (B l) q) (suchL q l) := such_loop q l hl l.length 0 zO
def pathL (l : List UInt8) : Bool := if Lib.hasPrefix l [47] = true then suchL false l else false
theorem path_is (l : List UInt8) (hl : l.length ≤ 4294967296) : Ev (fun k => head_path.f k (B l)) (pathL l) := by
  have hp : strings_HasPrefix.f (B l) (⟨#[47]⟩ : ByteArray) = some (Lib.hasPrefix l [47]) := by
    unfold strings_HasPrefix.f;rw [B_list]
  unfold head_path.f pathL;refine Ev.call hp ?_;by_cases h : Lib.hasPrefix l [47] = true
  · rw [zp h];exact Ev.pos h (Ev.bind (such_is false l hl) (Ev.ret rfl))
  rw [zn h];exact Ev.neg h (Ev.ret rfl)
theorem splitK_len (sub : List UInt8) : ∀ (k : Nat) (s : List UInt8), (Lib.splitK sub 0 k s).length ≤ k + 1 ∧ ∀ p ∈ Lib.splitK sub 0 k s, p.length ≤ s.length := by
  intro k
  induction k with
  | zero => intro s; simp [Lib.splitK]
  | succ k ih =>
    intro s;simp only [Lib.splitK]
    split
    · simp
    have h := ih (s.drop ((Lib.index s sub).toNat + sub.length));refine ⟨by simp only [List.length_cons]; omega, ?_⟩;intro p hp
    rcases List.mem_cons.1 hp with rfl | hp
    · simp;omega
    have := h.2 p hp;rw [List.length_drop] at this;omega
theorem countFrom_le (sub : List UInt8) : ∀ (k : Nat) (s : List UInt8), Lib.countFrom sub k s ≤ k
  | 0, _ => zh _
  | k + 1, s => by
    unfold Lib.countFrom
    split
    · omega
    have := countFrom_le sub k (s.drop ((Lib.index s sub).toNat + sub.length));omega
theorem split_len (s sub : List UInt8) : (Lib.split s sub).length ≤ s.length + 2 ∧ ∀ p ∈ Lib.split s sub, p.length ≤ s.length := by
  have h1 := splitK_len sub (Lib.count s sub) s;have h2 : Lib.count s sub ≤ s.length + 1 := countFrom_le sub _ s;unfold Lib.split;exact ⟨zO, h1.2⟩
end Go.Proofs.YtahaihnlkohhgaaGreatDoor.HP
namespace Go.Proofs.YtahaihnlkohhgaaGreatDoor.HP
open Go.RowKit Go.Proofs.YtahaihnlkohhgaaGreatDoor.S Go.Proofs.YtahaihnlkohhgaaGreatDoorW.PrintWords Go.Proofs.YtahaihnlkohhgaaGreatDoorW.PrintLast Go.Proofs.YtahaihnlkohhgaaGreatDoorW.PrintMore
theorem Ev.res {α : Type} {g : Nat → Option α} {a r : α} (h : Ev g a) (e : a = r) : Ev g r := e ▸ h
def hbB (b : UInt8) : Bool := alB b || decide (b.toNat = 45)
def partOk (p : List UInt8) : Bool := p.all hbB && (p != [])
def hostS (l : List UInt8) : List UInt8 × Bool :=
  if (Lib.cut l [58]).2.1.all digB = true ∧ (Lib.cut l [58]).2.1.length ≤ 5 ∧ (Lib.cut l [58]).1.length ≤ 64 ∧ (Lib.split (Lib.cut l [58]).1 [46]).all partOk = true then ((Lib.cut l [58]).1.map lowB, true) else ([], false)
def hostR (l : List UInt8) : ByteArray × Bool := (B (hostS l).1, (hostS l).2)
theorem hostP_is (x4 : ByteArray) (parts : List ByteArray) (n i : Int) (p : List UInt8) (hl : p.length ≤ 4294967296) (r : ByteArray × Bool)
    (h : Ev (fun k => head_HostX.l0 k x4 parts n (wrap64 (i + 1))) r) : ∀ (d j : Nat), j + d = p.length → Ev (fun k => head_HostX.l1 k x4 (B p) parts n i (p.length : Int) (j : Int)) (if ((p.drop j).all hbB && (p != [])) = true then r else (B [], false)) := by
  intro d
  induction d with
  | zero =>
    intro j hj;rw [List.drop_eq_nil_of_le zO, List.all_nil, Bool.true_and];by_cases hp : p = []
    · rw [zn (by simp [hp])];exact Ev.step (fun k => by simp only [head_HostX.l1]; rfl) (Ev.neg zO (Ev.pos (by rw [B_toList]; exact hp) (Ev.ret rfl)))
    rw [zp (by simp [hp])];exact Ev.step (fun k => by simp only [head_HostX.l1]; rfl) (Ev.neg zO (Ev.neg (by rw [B_toList]; exact hp) h))
  | succ d ih =>
    intro j hj;have hr := ih (j + 1) zO;have hw := wrap_succ j zO;rw [← hw] at hr;have hlt : j < p.length := by omega
    have hb := B_bt p j hlt;have hd : p.drop j = p[j] :: p.drop (j + 1) := List.drop_eq_getElem_cons hlt;rw [hd, List.all_cons];refine Ev.step (fun k => by simp only [head_HostX.l1]; rfl) (Ev.pos zO (Ev.pos zO (Ev.pos (by rw [B_size]; omega) ?_)));rw [hb];refine Ev.call (alnum_is _) ?_;cases hA : alB p[j] with
    | true =>
      rw [show hbB p[j] = true by simp [hbB, hA], Bool.true_and];exact Ev.pos rfl hr
    | false =>
      refine Ev.neg (by simp) ?_;by_cases h45 : p[j].toNat = 45
      · rw [show hbB p[j] = true by simp [hbB, h45], Bool.true_and];exact Ev.pos zO hr
      rw [show hbB p[j] = false by simp [hbB, hA, h45], Bool.false_and, Bool.false_and, zn (by simp)];exact Ev.neg zO (Ev.ret rfl)
theorem hostL_is (h : List UInt8) (hh : h.length ≤ 4294967296) (ps : List (List UInt8)) (hps : ps.length ≤ 4294967296) (hb : ∀ p ∈ ps, p.length ≤ 4294967296) :
    ∀ (d i : Nat), i + d = ps.length → Ev (fun k => head_HostX.l0 k (B h) (ps.map B) (ps.length : Int) (i : Int)) (if (ps.drop i).all partOk = true then (B (h.map lowB), true) else (B [], false)) := by
  intro d
  induction d with
  | zero =>
    intro i hi;rw [List.drop_eq_nil_of_le zO, List.all_nil, zp rfl];exact Ev.step (fun k => by simp only [head_HostX.l0]; rfl) (Ev.neg zO (Ev.call (Lower_is h hh) (Ev.ret rfl)))
  | succ d ih =>
    intro i hi;have hw := wrap_succ i zO;have hlt : i < ps.length := by omega
    have h1 := ih (i + 1) zO;rw [← hw] at h1;have hr := hostP_is (B h) (ps.map B) (ps.length : Int) (i : Int) ps[i] (hb _ (List.getElem_mem hlt)) _ h1 ps[i].length 0 zO;have hrd : rdOf ByteArray.empty (ps.map B) (i : Int) = B ps[i] := by simp [rdOf, hlt]
    have hd : ps.drop i = ps[i] :: ps.drop (i + 1) := List.drop_eq_getElem_cons hlt;refine Ev.step (fun k => by simp only [head_HostX.l0]; rfl) (Ev.pos zO (Ev.pos zO (Ev.pos (by rw [List.length_map]; omega) ?_)));rw [hrd, B_size, hd, List.all_cons];rw [List.drop_zero] at hr;refine Ev.res hr ?_
    show (if partOk ps[i] = true then _ else _) = _
    cases partOk ps[i] <;> simp
theorem hostX_is (l : List UInt8) (hl : l.length ≤ 1000000000) (hd : (Lib.cut l [58]).2.1.all digB = true) : Ev (fun k => head_HostX.f k (B l)) (hostR l) := by
  have hc : strings_Cut.f (B l) (⟨#[58]⟩ : ByteArray) = some (B (Lib.cut l [58]).1, B (Lib.cut l [58]).2.1, (Lib.cut l [58]).2.2) := Cut_is l [58] zO;have hle : (Lib.cut l [58]).1.length ≤ l.length := by
    unfold Lib.cut
    split
    · simp;omega
    exact zh _
  unfold hostR hostS;generalize (Lib.cut l [58]).1 = h at hc hle ⊢;generalize (Lib.cut l [58]).2.1 = port at hc hd ⊢;unfold head_HostX.f;by_cases h5 : port.length ≤ 5;rotate_left
  · rw [zn (fun hh => h5 hh.2.1)];exact Ev.call hc (Ev.pos (by rw [B_size]; omega) (Ev.step (fun k => by simp only [head_HostX.j0]; rfl) (Ev.pos (by trivial) (Ev.ret rfl))))
  by_cases h64 : h.length ≤ 64;rotate_left
  · rw [zn (fun hh => h64 hh.2.2.1)];refine Ev.call hc (Ev.neg (by rw [B_size]; omega) ?_);rw [show decide (((B h).size : Int) > 64) = true by rw [B_size]; exact zt zO];exact Ev.step (fun k => by simp only [head_HostX.j0]; rfl) (Ev.pos (by trivial) (Ev.ret rfl))
  refine Ev.call hc (Ev.neg (by rw [B_size]; omega) ?_);rw [show decide (((B h).size : Int) > 64) = false by rw [B_size]; exact zf zO];have hs : strings_Split.f (B h) (⟨#[46]⟩ : ByteArray) = some ((Lib.split h [46]).map B) := Split_is h [46] zO (by decide);obtain ⟨s1, s2⟩ := split_len h [46];have hr := hostL_is h zO (Lib.split h [46]) zO (fun p hp => by have := s2 p hp; omega) (Lib.split h [46]).length 0 zO;rw [List.drop_zero] at hr;refine Ev.step (fun k => by simp only [head_HostX.j0]; rfl) (Ev.neg (by simp) (Ev.call hs ?_));rw [List.length_map];refine Ev.res hr ?_;by_cases hp : (Lib.split h [46]).all partOk = true
  · rw [zp hp, zp ⟨hd, h5, h64, hp⟩]
  rw [zn hp, zn (fun hh => hp hh.2.2.2)]
theorem host_is (l : List UInt8) (hl : l.length ≤ 1000000000) : Ev (fun k => head_Host.f k (B l)) (hostR l) := by
  have hc : strings_Cut.f (B l) (⟨#[58]⟩ : ByteArray) = some (B (Lib.cut l [58]).1, B (Lib.cut l [58]).2.1, (Lib.cut l [58]).2.2) := Cut_is l [58] zO;unfold head_Host.f;by_cases h : (Lib.cut l [58]).2.1.all digB = true
  · exact Ev.call hc (Ev.pos (by rw [B_list]; exact h) (hostX_is l hl h))
  refine Ev.call hc (Ev.neg (by rw [B_list]; exact h) (Ev.ret ?_));unfold hostR hostS;rw [zn (fun hh => h hh.1)];rfl
def cutC (c : UInt8) : List UInt8 → List UInt8 × List UInt8 × Bool
  | [] => ([], [], false)
  | b :: l => if b = c then ([], l, true) else (b :: (cutC c l).1, (cutC c l).2)
def splitC (c : UInt8) : List UInt8 → List (List UInt8)
  | [] => [[]]
  | b :: l => if b = c then [] :: splitC c l else match splitC c l with
    | [] => [[b]]
    | x :: r => (b :: x) :: r
theorem at_first (c : UInt8) : ∀ (s : List UInt8), c ∉ s ∨ ∃ a b, s = a ++ c :: b ∧ c ∉ a
  | [] => .inl (by simp)
  | x :: s => by
    by_cases hx : x = c
    · exact .inr ⟨[], s, by simp [hx], by simp⟩
    rcases at_first c s with h | ⟨a, b, rfl, ha⟩
    · exact .inl (by simp [h]; exact fun e => hx e.symm)
    exact .inr ⟨x :: a, b, rfl, by simp [ha]; exact fun e => hx e.symm⟩
theorem cutC_no (c : UInt8) : ∀ (a : List UInt8), c ∉ a → cutC c a = (a, [], false)
  | [], _ => rfl
  | x :: a, h => by
    have hx : x ≠ c := fun e => h (by simp [e])
    rw [cutC, zn hx, cutC_no c a (fun hm => h (by simp [hm]))]
theorem cutC_one (c : UInt8) (b : List UInt8) : ∀ (a : List UInt8), c ∉ a → cutC c (a ++ c :: b) = (a, b, true)
  | [], _ => by simp [cutC]
  | x :: a, h => by
    have hx : x ≠ c := fun e => h (by simp [e])
    rw [List.cons_append, cutC, zn hx, cutC_one c b a (fun hm => h (by simp [hm]))]
theorem cut_is (c : UInt8) (s : List UInt8) : Lib.cut s [c] = cutC c s := by
  rcases at_first c s with h | ⟨a, b, rfl, ha⟩
  · rw [cut_no s c h, cutC_no c s h]
  rw [cut_one a b c ha, cutC_one c b a ha]
theorem splitC_no (c : UInt8) : ∀ (a : List UInt8), c ∉ a → splitC c a = [a]
  | [], _ => rfl
  | x :: a, h => by
    have hx : x ≠ c := fun e => h (by simp [e])
    rw [splitC, zn hx, splitC_no c a (fun hm => h (by simp [hm]))]
theorem splitC_one (c : UInt8) (b : List UInt8) : ∀ (a : List UInt8), c ∉ a → splitC c (a ++ c :: b) = a :: splitC c b
  | [], _ => by simp [splitC]
  | x :: a, h => by
    have hx : x ≠ c := fun e => h (by simp [e])
    rw [List.cons_append, splitC, zn hx, splitC_one c b a (fun hm => h (by simp [hm]))]
theorem split_one (a b : List UInt8) (c : UInt8) (ha : c ∉ a) : Lib.split (a ++ c :: b) [c] = a :: Lib.split b [c] := by
  have h := index_one a b c ha;unfold Lib.split;rw [Lib.count_hit (by simp) h, Nat.add_comm];have hd : (a ++ c :: b).drop (a.length + 1) = b := by simp
  simp only [Lib.splitK];rw [h, zn (by simp), Int.toNat_natCast, Nat.add_zero, List.take_left' rfl, show ([c] : List UInt8).length = 1 from rfl, hd]
theorem split_one_no (a : List UInt8) (c : UInt8) (ha : c ∉ a) : Lib.split a [c] = [a] := by
  unfold Lib.split;rw [Lib.count_miss (index_no a c [] ha)];rfl
theorem split_is (c : UInt8) : ∀ (n : Nat) (s : List UInt8), s.length ≤ n → Lib.split s [c] = splitC c s := by
  intro n
  induction n with
  | zero =>
    intro s hs;have : s = [] := List.eq_nil_of_length_eq_zero zO;subst this;exact split_one_no [] c (by simp)
  | succ n ih =>
    intro s hs
    rcases at_first c s with h | ⟨a, b, rfl, ha⟩
    · rw [split_one_no s c h, splitC_no c s h]
    rw [split_one a b c ha, splitC_one c b a ha, ih b (by simp at hs; omega)]
end Go.Proofs.YtahaihnlkohhgaaGreatDoor.HP
namespace Go.Proofs.YtahaihnlkohhgaaGreatDoor.HP
open Go.RowKit Go.Proofs.YtahaihnlkohhgaaGreatDoor.S Go.Proofs.YtahaihnlkohhgaaGreatDoorW.PrintWords Go.Proofs.YtahaihnlkohhgaaGreatDoorW.PrintLast Go.Proofs.YtahaihnlkohhgaaGreatDoorW.PrintMore
abbrev Fd := List UInt8 × List UInt8
def sF (f : Fd) : S84 := ⟨B f.1, B f.2⟩
def wf (f : Fd) : Fd := (f.1, 32 :: f.2)
end Go.Proofs.YtahaihnlkohhgaaGreatDoor.HP
namespace Go.Proofs.YtahaihnlkohhgaaGreatDoor.HP
open Go.RowKit Go.Proofs.YtahaihnlkohhgaaGreatDoor.S Go.Proofs.YtahaihnlkohhgaaGreatDoorW.PrintWords Go.Proofs.YtahaihnlkohhgaaGreatDoorW.PrintLast Go.Proofs.YtahaihnlkohhgaaGreatDoorW.PrintMore
theorem N8_app (a b : List UInt8) : bytesOf (B a) ++ bytesOf (B b) = bytesOf (B (a ++ b)) := by rw [N8_B, N8_B, N8_B, List.map_append]
theorem N8_len (a : List UInt8) : (bytesOf (B a)).length = a.length := by rw [N8_B, List.length_map]
theorem bytes_in (l : List Int) (h : ∀ x ∈ l, (Lit.int .u8 x).wf = true) : ∃ z : List UInt8, l = bytesOf (B z) := by
  refine ⟨l.map (fun x => UInt8.ofNat x.toNat), ?_⟩;rw [N8_B, List.map_map]
  conv => lhs; rw [← List.map_id l]
  apply List.map_congr_left;intro x hx;have := h x hx;simp [Lit.wf, IntKind.min, IntKind.max, IntKind.signed, IntKind.bits] at this
  show x = (((UInt8.ofNat x.toNat).toNat : Nat) : Int)
  rw [UInt8.toNat_ofNat'];omega
end Go.Proofs.YtahaihnlkohhgaaGreatDoor.HP
namespace Go.Proofs.YtahaihnlkohhgaaGreatDoor.HP
open Go.RowKit Go.Proofs.YtahaihnlkohhgaaGreatDoor.S Go.Proofs.YtahaihnlkohhgaaGreatDoorW.PrintWords Go.Proofs.YtahaihnlkohhgaaGreatDoorW.PrintLast Go.Proofs.YtahaihnlkohhgaaGreatDoorW.PrintMore
theorem cut_le (s sep : List UInt8) : (Lib.cut s sep).1.length ≤ s.length ∧ (Lib.cut s sep).2.1.length ≤ s.length := by
  unfold Lib.cut
  split
  · simp;omega
  simp
theorem Ev.ite {α : Type} {c : Prop} [Decidable c] {a b : Nat → Option α} {x y : α} (h1 : c → Ev a x) (h2 : ¬ c → Ev b y) : Ev (fun k => if c then a k else b k) (if c then x else y) := by
  by_cases h : c
  · rw [zp h]; exact Ev.pos h (h1 h)
  rw [zn h]; exact Ev.neg h (h2 h)
def lineS (ln : List UInt8) : Option Fd :=
  if (Lib.cut ln [58]).2.2 = true ∧ tokOk (Lib.cut ln [58]).1 = true ∧ valOk (Lib.trimS (Lib.cut ln [58]).2.1 [9, 32]) = true then some ((Lib.cut ln [58]).1.map lowB, Lib.trimS (Lib.cut ln [58]).2.1 [9, 32]) else none
def loopS (E : Int) (m p q hh : ByteArray) : List (List UInt8) → Nat → List UInt8 → List Fd → HR
  | [], n, ho, acc => fin E m p q hh n (B ho) (acc.map sF)
  | ln :: r, n, ho, acc => match lineS ln with
    | none => errR 4
    | some f => if f.1 = hostL then (if (hostS f.2).2 = true then loopS E m p q hh r (n + 1) (hostS f.2).1 (acc ++ [f]) else errR 4) else loopS E m p q hh r n ho (acc ++ [f])
set_option maxHeartbeats 4000000 in
theorem loopS_is (E : Int) (hE : 0 ≤ E ∧ E ≤ 100000) (m p q hh : ByteArray) (lines : List ByteArray) (hll : lines.length ≤ 100000) :
    ∀ (ls : List (List UInt8)) (pre : List ByteArray) (n : Nat) (ho : List UInt8) (acc : List Fd),
      lines = pre ++ ls.map B → (∀ l ∈ ls, l.length ≤ 1000000000) →
      n ≤ pre.length → acc.length ≤ pre.length →
      Ev (fun k => head_Parse.l0 k E lines (n : Int) (pre.length : Int) (B ho) m p q hh (acc.map sF)) (loopS E m p q hh ls n ho acc) := by
  intro ls
  induction ls with
  | nil =>
    intro pre n ho acc hl _ hn ha;have hw : wrap64 (E + 4) = E + 4 := by unfold wrap64; omega
    rw [List.map_nil, List.append_nil] at hl;subst hl;refine Ev.step (fun k => by simp only [head_Parse.l0]; rfl) (Ev.neg zO ?_);rw [hw]
    show Ev _ (fin E m p q hh n (B ho) (acc.map sF))
    unfold fin;by_cases h1 : n = 1;rotate_left
    · rw [zn h1];exact Ev.neg zO (Ev.ret rfl)
    rw [zp h1];refine Ev.pos zO ?_;by_cases h2 : 32 < (acc.map sF).length
    · rw [zp h2];exact Ev.pos zO (Ev.ret rfl)
    rw [zn h2];refine Ev.neg zO ?_;by_cases h3 : hh.toList = []
    · rw [zp h3];simp only [zp h3];exact Ev.ret rfl
    rw [zn h3];simp only [zn h3];exact Ev.ret rfl
  | cons ln ls ih =>
    intro pre n ho acc hl hg hn ha;have g1 := hg ln (by simp);have hlen : pre.length + (ls.length + 1) = lines.length := by rw [hl]; simp
    have hrd : rdOf ByteArray.empty lines (pre.length : Int) = B ln := by
      rw [hl];simp [rdOf]
    have c1 : strings_Cut.f (B ln) (⟨#[58]⟩ : ByteArray) = some (B (Lib.cut ln [58]).1, B (Lib.cut ln [58]).2.1, (Lib.cut ln [58]).2.2) := Cut_is ln [58] zO;obtain ⟨le1, le2⟩ := cut_le ln [58];have t1 : strings_Trim.f (B (Lib.cut ln [58]).2.1) (⟨#[9, 32]⟩ : ByteArray) = some (B (Lib.trimS (Lib.cut ln [58]).2.1 [9, 32])) := Trim_is (Lib.cut ln [58]).2.1 [9, 32] zO (by decide) (by decide);have htl := trim_le (Lib.cut ln [58]).2.1 [9, 32];have tk := token_is (Lib.cut ln [58]).1 zO;have vl := value_is (Lib.trimS (Lib.cut ln [58]).2.1 [9, 32]) zO;have lo : head_lower.f (B (Lib.cut ln [58]).1) = some (B ((Lib.cut ln [58]).1.map lowB)) := Lower_is (Lib.cut ln [58]).1 zO;have hx := host_is (Lib.trimS (Lib.cut ln [58]).2.1 [9, 32]) zO;have hw1 : wrap64 ((pre.length : Int) + 1) = ((pre ++ [B ln]).length : Int) := by
      rw [List.length_append];unfold wrap64;simp;omega
    have hw2 : wrap64 ((n : Int) + 1) = ((n + 1 : Nat) : Int) := by unfold wrap64; omega
    have hl' : lines = (pre ++ [B ln]) ++ ls.map B := by rw [hl]; simp
    have hg' : ∀ x ∈ ls, x.length ≤ 1000000000 := fun x hx => hg x (by simp [hx])
    have hp : (pre ++ [B ln]).length = pre.length + 1 := by simp
    rw [loopS];generalize hc1 : (Lib.cut ln [58]).1 = nm at *;generalize hc2 : (Lib.cut ln [58]).2.1 = v0 at *;generalize hc3 : (Lib.cut ln [58]).2.2 = is at *;generalize hv : Lib.trimS v0 [9, 32] = v at *;have hline : lineS ln = if is = true ∧ tokOk nm = true ∧ valOk v = true then some (nm.map lowB, v) else none := by
      unfold lineS;rw [hc1, hc2, hc3, hv]
    rw [hline];have hac2 : (acc ++ [(nm.map lowB, v)]).length ≤ (pre ++ [B ln]).length := by rw [hp, List.length_append]; exact Nat.succ_le_succ ha
    have hn1 : n + 1 ≤ (pre ++ [B ln]).length := by rw [hp]; exact Nat.succ_le_succ hn
    have hn0 : n ≤ (pre ++ [B ln]).length := by rw [hp]; exact Nat.le_succ_of_le hn
    have hacl : (acc.map sF).length = acc.length := List.length_map ..;refine Ev.step (fun k => by simp only [head_Parse.l0]; rfl) ?_;refine Ev.pos zO (Ev.pos zO ?_);rw [hrd];refine Ev.call c1 (Ev.call t1 ?_);cases is with
    | false =>
      rw [zn (by simp)];exact Ev.neg (by simp) (Ev.step (fun k => by simp only [head_Parse.j2]; rfl) (Ev.pos (by trivial) (Ev.ret rfl)))
    | true =>
      refine Ev.pos rfl (Ev.bind tk ?_);cases htk : tokOk nm with
      | false =>
        rw [zn (by simp)];exact Ev.neg (by simp) (Ev.step (fun k => by simp only [head_Parse.j2]; rfl) (Ev.pos (by trivial) (Ev.ret rfl)))
      | true =>
        refine Ev.pos rfl (Ev.bind vl ?_);cases hvl : valOk v with
        | false =>
          rw [zn (by simp)];exact Ev.step (fun k => by simp only [head_Parse.j2]; rfl) (Ev.pos (by trivial) (Ev.ret rfl))
        | true =>
          rw [zp ⟨rfl, rfl, rfl⟩]
          show Ev _ (if nm.map lowB = hostL then (if (hostS v).2 = true then loopS E m p q hh ls (n + 1) (hostS v).1 (acc ++ [(nm.map lowB, v)]) else errR 4) else loopS E m p q hh ls n ho (acc ++ [(nm.map lowB, v)]))
          refine Ev.step (fun k => by simp only [head_Parse.j2]; rfl) ?_;refine Ev.neg (by decide) (Ev.call lo (Ev.pos zO (Ev.put (Ev.call lo ?_))));have hsnoc : acc.map sF ++ [⟨B (nm.map lowB), B v⟩] = (acc ++ [(nm.map lowB, v)]).map sF := by simp [sF]
          rw [hsnoc];by_cases hq : nm.map lowB = hostL
          · rw [zp hq];refine Ev.pos (by rw [B_toList]; exact hq) (Ev.bind hx ?_);cases hb : (hostS v).2 with
            | false =>
              rw [zn (by simp)];exact Ev.neg (by show ¬ (hostR v).2 = true; unfold hostR; simp [hb]) (Ev.ret rfl)
            | true =>
              rw [zp rfl];refine Ev.pos (by show (hostR v).2 = true; exact hb) ?_;have h := ih (pre ++ [B ln]) (n + 1) (hostS v).1 (acc ++ [(nm.map lowB, v)]) hl' hg' hn1 hac2;rw [hw1, hw2];exact h
          rw [zn hq];refine Ev.neg (by rw [B_toList]; exact hq) ?_;have h := ih (pre ++ [B ln]) n ho (acc ++ [(nm.map lowB, v)]) hl' hg' hn0 hac2;rw [hw1];exact h
def httpL : List UInt8 := [104, 116, 116, 112, 58, 47, 47]
def endS (p q hh : List UInt8) : List UInt8 × List UInt8 × List UInt8 × Bool := (p, q, hh, pathL p && suchL true q)
def farS (rest q : List UInt8) : List UInt8 × List UInt8 × List UInt8 × Bool :=
  let k := Lib.indexByte rest 47
  let ho := if k < 0 then rest else rest.take k.toNat
  let pp := if k < 0 then [47] else rest.drop k.toNat
  if (hostS ho).2 = true then endS pp q (hostS ho).1 else ([], [], [], false)
def targetS (t : List UInt8) : List UInt8 × List UInt8 × List UInt8 × Bool :=
  if Lib.hasPrefix (Lib.cut t [63]).1 httpL = true then farS (Lib.trimPrefix (Lib.cut t [63]).1 httpL) (Lib.cut t [63]).2.1
  else endS (Lib.cut t [63]).1 (Lib.cut t [63]).2.1 []
def tR (x : List UInt8 × List UInt8 × List UInt8 × Bool) : ByteArray × ByteArray × ByteArray × Bool := (B x.1, B x.2.1, B x.2.2.1, x.2.2.2)
theorem end_is (p q hh : List UInt8) (hp : p.length ≤ 1000000000) (hq : q.length ≤ 1000000000) : Ev (fun k => (head_path.f k (B p)).bind fun t137 => if t137 = true then ((head_such.f k (B q) true).bind fun t138 => (some (B p, B q, B hh, t138))) else (some (B p, B q, B hh, false))) (tR (endS p q hh)) := by
  refine Ev.bind (path_is p zO) ?_;unfold tR endS;cases pathL p with
  | false => exact Ev.neg (by simp) (Ev.ret rfl)
  | true => exact Ev.pos rfl (Ev.bind (such_is true q zO) (Ev.ret rfl))
theorem far_is (pp q ho : List UInt8) (hp : pp.length ≤ 1000000000) (hq : q.length ≤ 1000000000) (hh : ho.length ≤ 1000000000) : Ev (fun k => head_target.j0 k (B pp) (B q) (B ho)) (tR (if (hostS ho).2 = true then endS pp q (hostS ho).1 else ([], [], [], false))) := by
  refine Ev.step (fun k => by simp only [head_target.j0]; rfl) (Ev.bind (host_is ho hh) ?_);by_cases h : (hostS ho).2 = true
  · rw [zp h];exact Ev.pos h (end_is pp q (hostS ho).1 hp hq)
  rw [zn h];exact Ev.neg h (Ev.ret rfl)
theorem targetS_is (t : List UInt8) (ht : t.length ≤ 1000000000) : Ev (fun k => head_target.f k (B t)) (tR (targetS t)) := by
  have hc : strings_Cut.f (B t) (⟨#[63]⟩ : ByteArray) = some (B (Lib.cut t [63]).1, B (Lib.cut t [63]).2.1, (Lib.cut t [63]).2.2) := Cut_is t [63] zO;obtain ⟨l1, l2⟩ := cut_le t [63];have hx : strings_CutPrefix.f (B (Lib.cut t [63]).1) (⟨#[104, 116, 116, 112, 58, 47, 47]⟩ : ByteArray) = some (B (Lib.trimPrefix (Lib.cut t [63]).1 httpL), Lib.hasPrefix (Lib.cut t [63]).1 httpL) := by
    unfold strings_CutPrefix.f;rw [B_list];rfl
  have hl := Lib.trimPrefix_le (Lib.cut t [63]).1 httpL;unfold head_target.f targetS;refine Ev.call hc (Ev.call hx ?_);generalize (Lib.cut t [63]).1 = p at *;generalize (Lib.cut t [63]).2.1 = q at *;by_cases h : Lib.hasPrefix p httpL = true;rotate_left
  · rw [zn h];exact Ev.neg h (end_is p q [] zO zO)
  rw [zp h];refine Ev.pos h ?_;generalize Lib.trimPrefix p httpL = rest at *;have hb : strings_IndexByte.f (B rest) 47 = some (Lib.indexByte rest 47) := by
    unfold strings_IndexByte.f;rw [B_list];rfl
  refine Ev.call hb ?_;unfold farS;simp only;by_cases hk : Lib.indexByte rest 47 < 0
  · refine Ev.pos hk ?_;rw [zp hk, zp hk];exact far_is [47] q rest (by simp) zO zO
  have hk1 : Lib.indexByte rest 47 ≤ rest.length := by
    obtain ⟨o, ho⟩ : ∃ o : Nat, Lib.indexByte rest 47 = o := ⟨(Lib.indexByte rest 47).toNat, zO⟩;have h1 := (Lib.indexByte_some ho).1;have h2 := (List.getElem?_eq_some_iff.1 h1).1;omega
  refine Ev.neg hk (Ev.pos zO (Ev.pos (by rw [B_size]; exact hk1) ?_));rw [zn hk, zn hk, B_size, B_extract, B_extract];have e1 : (rest.drop (Lib.indexByte rest 47).toNat).take (rest.length - (Lib.indexByte rest 47).toNat) = rest.drop (Lib.indexByte rest 47).toNat := List.take_of_length_le (by simp);rw [e1, List.drop_zero, Nat.sub_zero];exact far_is _ q _ (by simp; omega) zO (by simp; omega)
def headS (e : Int) (ls : List (List UInt8)) : HR :=
  let c := Lib.cut (ls.headD []) [32]
  let d := Lib.cut c.2.1 [32]
  let t := targetS d.1
  if t.2.2.2 = true ∧ tokOk c.1 = true ∧ d.2.1 = verL then loopS e (B c.1) (B t.1) (B t.2.1) (B t.2.2.1) ls.tail 0 [] [] else errR 4
def parseS (b : List UInt8) : HR :=
  if Lib.index (b.take 2048) [13, 10, 13, 10] < 0 then (if b.length < 2048 then errR 3 else errR 6) else headS (Lib.index (b.take 2048) [13, 10, 13, 10]) (Lib.split (b.take (Lib.index (b.take 2048) [13, 10, 13, 10]).toNat) [13, 10])
theorem splitK_ne (sub : List UInt8) (k : Nat) (s : List UInt8) : Lib.splitK sub 0 k s ≠ [] := by
  cases k with
  | zero => simp [Lib.splitK]
  | succ k =>
    simp only [Lib.splitK]
    split <;> simp
theorem split_ne (s sub : List UInt8) : Lib.split s sub ≠ [] := splitK_ne _ _ _
theorem parseS_is (b : List UInt8) : Ev (fun k => head_Parse.f k (bytesOf (B b))) (parseS b) := by
  have hl : (b.map (fun x => (x.toNat : Int))).length = b.length := List.length_map ..;obtain ⟨M, hM, hM1, hM2⟩ : ∃ M : Nat, mn (b.length : Int) 2048 = (M : Int) ∧ M ≤ b.length ∧ b.take M = b.take 2048 := by
    unfold mn
    split
    · exact ⟨2048, rfl, zO, rfl⟩
    refine ⟨b.length, rfl, zh _, ?_⟩;rw [List.take_of_length_le (zh _), List.take_of_length_le zO]
  unfold head_Parse.f;rw [N8_B, hl, hM];refine Ev.pos zO (Ev.pos zO ?_);rw [Int.toNat_natCast, ← List.map_take, hM2];have hix : bytes_Index.f ((b.take 2048).map (fun b => (b.toNat : Int))) ([13, 10, 13, 10] : List Int) = some (Lib.index (b.take 2048) [13, 10, 13, 10]) := by
    rw [show ([13, 10, 13, 10] : List Int) = ([13, 10, 13, 10] : List UInt8).map (fun b => (b.toNat : Int)) from rfl, Index_is _ _ (by rw [List.length_take]; omega) (by decide) (by decide)]
  refine Ev.call hix ?_;have hroom := Lib.index_room (b.take 2048) [13, 10, 13, 10];rw [List.length_take] at hroom;unfold parseS;generalize Lib.index (b.take 2048) [13, 10, 13, 10] = e at *;by_cases he : e < 0
  · rw [zp he];refine Ev.pos he ?_;by_cases h2 : b.length < 2048
    · rw [zp h2];exact Ev.pos zO (Ev.ret rfl)
    rw [zn h2];exact Ev.neg zO (Ev.ret rfl)
  rw [zn he];have hr := hroom zO;simp only [List.length_cons, List.length_nil] at hr;refine Ev.neg he (Ev.pos zO (Ev.pos zO ?_));rw [← List.map_take, strOf_N8];have htl : (b.take e.toNat).length ≤ 2048 := by rw [List.length_take]; omega
  generalize b.take e.toNat = s at *;have hsp : strings_Split.f (B s) (⟨#[13, 10]⟩ : ByteArray) = some ((Lib.split s [13, 10]).map B) := Split_is s [13, 10] zO (by decide);refine Ev.call hsp ?_;obtain ⟨n1, n2⟩ := split_len s [13, 10];have hne := split_ne s [13, 10];generalize Lib.split s [13, 10] = ls at *;cases ls with
  | nil => exact absurd rfl hne
  | cons ln ls =>
    have hlen : (((ln :: ls).map B).length : Int) = ls.length + 1 := by simp
    refine Ev.pos (by rw [hlen]; omega) ?_;have hrd : rdOf ByteArray.empty ((ln :: ls).map B) 0 = B ln := by simp [rdOf]
    rw [hrd];have hln := n2 ln (by simp);have hls : ls.length ≤ 2050 := by simp at n1; omega
    obtain ⟨a1, a2⟩ := cut_le ln [32];have c1 : strings_Cut.f (B ln) (⟨#[32]⟩ : ByteArray) = some (B (Lib.cut ln [32]).1, B (Lib.cut ln [32]).2.1, (Lib.cut ln [32]).2.2) := Cut_is ln [32] zO;unfold headS;rw [show (ln :: ls).headD [] = ln from rfl, show (ln :: ls).tail = ls from rfl];generalize hm : (Lib.cut ln [32]).1 = m at *;generalize hr2 : (Lib.cut ln [32]).2.1 = rest at *;obtain ⟨b1, b2⟩ := cut_le rest [32];have c2 : strings_Cut.f (B rest) (⟨#[32]⟩ : ByteArray) = some (B (Lib.cut rest [32]).1, B (Lib.cut rest [32]).2.1, (Lib.cut rest [32]).2.2) := Cut_is rest [32] zO;refine Ev.call c1 (Ev.call c2 ?_);simp only;rw [hm, hr2];generalize (Lib.cut rest [32]).1 = t at *;generalize (Lib.cut rest [32]).2.1 = ver at *;refine Ev.bind (targetS_is t zO) ?_;have hbad : ∀ (x : ByteArray × ByteArray × ByteArray × Bool), Ev (fun k => head_Parse.j0 k e ((ln :: ls).map B) 0 1 (⟨#[]⟩ : ByteArray) (B m) true (⟨#[]⟩ : ByteArray) x.1 x.2.1 x.2.2.1) (errR 4) := fun x => Ev.step (fun k => by simp only [head_Parse.j0]; rfl) (Ev.pos (by trivial) (Ev.ret rfl))
    by_cases ht : (targetS t).2.2.2 = true;rotate_left
    · rw [zn (fun h => ht h.1)];exact Ev.neg ht (hbad (tR (targetS t)))
    refine Ev.pos ht (Ev.bind (token_is m zO) ?_);by_cases hm2 : tokOk m = true
    · refine Ev.pos hm2 ?_;rw [B_toList];by_cases hv : ver = verL
      · rw [zp ⟨ht, hm2, hv⟩, show (ver != ([72, 84, 84, 80, 47, 49, 46, 49] : List UInt8)) = false by rw [hv]; decide];have h := loopS_is e zO (B m) (B (targetS t).1) (B (targetS t).2.1) (B (targetS t).2.2.1) ((ln :: ls).map B) (by simp; omega) ls [B ln] 0 [] [] (by simp) (fun l hl => by have := n2 l (by simp [hl]); omega) zO (by simp);exact Ev.step (fun k => by simp only [head_Parse.j0]; rfl) (Ev.neg (by simp) h)
      rw [zn (fun h => hv h.2.2), show (ver != ([72, 84, 84, 80, 47, 49, 46, 49] : List UInt8)) = true by simpa [verL] using hv];exact hbad (tR (targetS t))
    rw [zn (fun h => hm2 h.2.1)];exact Ev.neg hm2 (hbad (tR (targetS t)))
end Go.Proofs.YtahaihnlkohhgaaGreatDoor.HP
namespace Go.Proofs.YtahaihnlkohhgaaGreatDoor.HP
open Go.RowKit Go.Proofs.YtahaihnlkohhgaaGreatDoor.S Go.Proofs.YtahaihnlkohhgaaGreatDoorW.PrintWords Go.Proofs.YtahaihnlkohhgaaGreatDoorW.PrintLast Go.Proofs.YtahaihnlkohhgaaGreatDoorW.PrintMore
theorem u8_all {P : UInt8 → Prop} (h : ∀ n : Fin 256, P (UInt8.ofNat n.val)) (b : UInt8) : P b := by
  have := h ⟨b.toNat, b.toNat_lt⟩;simpa using this
theorem rin_is (c : UInt8) (s : List UInt8) (hs : s.length ≤ 4294967296) : ∀ (d i : Nat), i + d = s.length → Ev (fun k => tollgateref09_in.l0 k (c.toNat : Int) (B s) (i : Int)) ((s.drop i).contains c) := by
  intro d
  induction d with
  | zero =>
    intro i hi;rw [List.drop_eq_nil_of_le zO];exact Ev.step (fun k => by simp only [tollgateref09_in.l0]; rfl) (Ev.neg (by rw [B_size]; omega) (Ev.ret rfl))
  | succ d ih =>
    intro i hi;have hlt : i < s.length := by omega
    have hw := wrap_succ i zO;rw [List.drop_eq_getElem_cons hlt, List.contains_cons];refine Ev.step (fun k => by simp only [tollgateref09_in.l0]; rfl) (Ev.pos (by rw [B_size]; omega) (Ev.pos zO ?_));rw [B_bt s i hlt, hw];by_cases h : c = s[i]
    · rw [show (c == s[i]) = true by simpa using h, Bool.true_or];exact Ev.pos (by rw [h]) (Ev.ret rfl)
    rw [show (c == s[i]) = false by simpa using h, Bool.false_or];exact Ev.neg (fun he => h (UInt8.toNat_inj.1 zO)) (ih (i + 1) zO)
theorem in_is (c : UInt8) (s : List UInt8) (hs : s.length ≤ 4294967296) : Ev (fun k => tollgateref09_in.f k (c.toNat : Int) (B s)) (s.contains c) := rin_is c s hs s.length 0 zO
theorem rall_is (l s : List UInt8) (hl : l.length ≤ 4294967296) (hs : s.length ≤ 4294967296) : ∀ (d i : Nat), i + d = l.length → Ev (fun k => tollgateref09_all.l0 k (B l) (B s) (i : Int)) ((l.drop i).all s.contains) := by
  intro d
  induction d with
  | zero =>
    intro i hi;rw [List.drop_eq_nil_of_le zO];exact Ev.step (fun k => by simp only [tollgateref09_all.l0]; rfl) (Ev.neg (by rw [B_size]; omega) (Ev.ret rfl))
  | succ d ih =>
    intro i hi;have hlt : i < l.length := by omega
    have hw := wrap_succ i zO;rw [List.drop_eq_getElem_cons hlt, List.all_cons];refine Ev.step (fun k => by simp only [tollgateref09_all.l0]; rfl) (Ev.pos (by rw [B_size]; omega) (Ev.pos zO ?_));rw [B_bt l i hlt, hw];refine Ev.bind (in_is l[i] s hs) ?_;cases s.contains l[i] with
    | true =>
      rw [Bool.true_and];exact Ev.pos rfl (ih (i + 1) zO)
    | false =>
      rw [Bool.false_and];exact Ev.neg (by simp) (Ev.ret rfl)
theorem all_is (l s : List UInt8) (hl : l.length ≤ 4294967296) (hs : s.length ≤ 4294967296) : Ev (fun k => tollgateref09_all.f k (B l) (B s)) (l.all s.contains) := rall_is l s hl hs l.length 0 zO
def tokS : List UInt8 := [97, 98, 99, 100, 101, 102, 103, 104, 105, 106, 107, 108, 109, 110, 111, 112, 113, 114, 115, 116, 117, 118, 119, 120, 121, 122, 65, 66, 67, 68, 69, 70, 71, 72, 73, 74, 75, 76, 77, 78, 79, 80, 81, 82, 83, 84, 85, 86, 87, 88, 89, 90, 48, 49, 50, 51, 52, 53, 54, 55, 56, 57, 33, 35, 36, 37, 38, 39, 42, 43, 45, 46, 94, 95, 96, 124, 126]
theorem tokS_is : ∀ b : UInt8, tokS.contains b = tokB b := u8_all (by decide +kernel)
theorem Token_is (l : List UInt8) (hl : l.length ≤ 4294967296) : Ev (fun k => tollgateref09_Token.f k (B l)) (tokOk l) := by
  unfold tollgateref09_Token.f;by_cases h : l = []
  · subst h;exact Ev.pos (B_toList []) (Ev.ret rfl)
  refine Ev.neg (by rw [B_toList]; exact h) (Ev.bind (all_is l tokS hl (by decide)) (Ev.ret ?_));rw [show tokS.contains = tokB from funext tokS_is];simp [tokOk, h]
def hexS : List UInt8 := [48, 49, 50, 51, 52, 53, 54, 55, 56, 57, 97, 98, 99, 100, 101, 102, 65, 66, 67, 68, 69, 70]
def pchS : List UInt8 := [97, 98, 99, 100, 101, 102, 103, 104, 105, 106, 107, 108, 109, 110, 111, 112, 113, 114, 115, 116, 117, 118, 119, 120, 121, 122, 65, 66, 67, 68, 69, 70, 71, 72, 73, 74, 75, 76, 77, 78, 79, 80, 81, 82, 83, 84, 85, 86, 87, 88, 89, 90, 48, 49, 50, 51, 52, 53, 54, 55, 56, 57, 47, 45, 46, 95, 126, 33, 36, 38, 39, 40, 41, 42, 43, 44, 59, 61, 58, 64]
def moreS (q : Bool) : List UInt8 := if q = true then [63] else []
theorem hexS_is : ∀ b : UInt8, hexS.contains b = hexB b := u8_all (by decide +kernel)
theorem pchS_is (q : Bool) : ∀ b : UInt8, b.toNat ≠ 37 → (pchS ++ moreS q).contains b = (if b.toNat = 63 ∧ q = true then true else pchB b) := by
  cases q
  · exact u8_all (P := fun b => b.toNat ≠ 37 → (pchS ++ moreS false).contains b = (if b.toNat = 63 ∧ false = true then true else pchB b)) (by decide +kernel)
  exact u8_all (P := fun b => b.toNat ≠ 37 → (pchS ++ moreS true).contains b = (if b.toNat = 63 ∧ true = true then true else pchB b)) (by decide +kernel)
theorem hex_at (q : Bool) (r : List UInt8) (a : UInt8) (h : hexB a = true) : atB q (a :: r) = true := by
  have h1 : ∀ b : UInt8, hexB b = true → b.toNat ≠ 37 ∧ b.toNat ≠ 63 ∧ pchB b = true := u8_all (P := fun b => hexB b = true → b.toNat ≠ 37 ∧ b.toNat ≠ 63 ∧ pchB b = true) (by decide +kernel);obtain ⟨a1, a2, a3⟩ := h1 a h;rw [atB_cons, zn a1, zn (fun hh => a2 hh.1), a3]
theorem rsuch_is (q : Bool) (l : List UInt8) (hl : l.length ≤ 4294967296) : ∀ (n d i : Nat), d ≤ n → i + d = l.length → Ev (fun k => tollgateref09_such.l0 k (B l) (B (moreS q)) (i : Int)) (suchL q (l.drop i)) := by
  intro n
  induction n with
  | zero =>
    intro d i hd hi;rw [List.drop_eq_nil_of_le zO];exact Ev.step (fun k => by simp only [tollgateref09_such.l0]; rfl) (Ev.neg (by rw [B_size]; omega) (Ev.ret rfl))
  | succ n ih =>
    intro d i hd hi;by_cases h0 : d = 0
    · rw [List.drop_eq_nil_of_le zO];exact Ev.step (fun k => by simp only [tollgateref09_such.l0]; rfl) (Ev.neg (by rw [B_size]; omega) (Ev.ret rfl))
    have hlt : i < l.length := by omega
    have hw := wrap_succ i zO;have hw2 : wrap64 ((i : Int) + 2) = ((i + 2 : Nat) : Int) := by unfold wrap64; omega
    have hw3 : wrap64 (((i + 2 : Nat) : Int) + 1) = ((i + 3 : Nat) : Int) := by unfold wrap64; omega
    have hdr : l.drop i = l[i] :: l.drop (i + 1) := List.drop_eq_getElem_cons hlt;have hms : (moreS q).length ≤ 1 := by unfold moreS; split <;> simp
    have hF : Ev (fun k => tollgateref09_such.j1 k (B l) (B (moreS q)) (i : Int) true) false := Ev.step (fun k => by simp only [tollgateref09_such.j1]; rfl) (Ev.pos (by trivial) (Ev.ret rfl));rw [hdr]
    show Ev _ (atB q (l[i] :: l.drop (i + 1)) && suchL q (l.drop (i + 1)))
    rw [atB_cons];refine Ev.step (fun k => by simp only [tollgateref09_such.l0]; rfl) (Ev.pos (by rw [B_size]; omega) (Ev.pos zO ?_));rw [B_bt l i hlt, hw, hw2, B_size];by_cases h37 : l[i].toNat = 37;rotate_left
    · rw [zn h37, ← pchS_is q l[i] h37];refine Ev.neg zO (Ev.pos (by rw [B_size]; omega) ?_);have e1 : ((⟨#[97, 98, 99, 100, 101, 102, 103, 104, 105, 106, 107, 108, 109, 110, 111, 112, 113, 114, 115, 116, 117, 118, 119, 120, 121, 122, 65, 66, 67, 68, 69, 70, 71, 72, 73, 74, 75, 76, 77, 78, 79, 80, 81, 82, 83, 84, 85, 86, 87, 88, 89, 90, 48, 49, 50, 51, 52, 53, 54, 55, 56, 57, 47, 45, 46, 95, 126, 33, 36, 38, 39, 40, 41, 42, 43, 44, 59, 61, 58, 64]⟩ : ByteArray) ++ B (moreS q)) = B (pchS ++ moreS q) := B_append pchS (moreS q);rw [e1];have hlen : (pchS ++ moreS q).length ≤ 4294967296 := by rw [List.length_append]; have : pchS.length = 80 := rfl; omega
      refine Ev.bind (in_is l[i] (pchS ++ moreS q) hlen) ?_;cases (pchS ++ moreS q).contains l[i] with
      | true =>
        rw [Bool.true_and];exact Ev.pos rfl (ih (d - 1) (i + 1) zO zO)
      | false =>
        rw [Bool.false_and];exact Ev.neg (by simp) (Ev.ret rfl)
    rw [zp h37];refine Ev.pos zO ?_;by_cases h2 : l.length ≤ i + 2
    · rw [two_short _ (by rw [List.length_drop]; omega), Bool.false_and];exact Ev.pos zO hF
    have h1 : i + 1 < l.length := by omega
    have h3 : i + 2 < l.length := by omega
    have hd1 : l.drop (i + 1) = l[i + 1] :: l[i + 2] :: l.drop (i + 3) := by
      rw [List.drop_eq_getElem_cons h1, List.drop_eq_getElem_cons h3]
    rw [hd1]
    show Ev _ ((hexB l[i + 1] && hexB l[i + 2]) && suchL q (l[i + 1] :: l[i + 2] :: l.drop (i + 3)))
    refine Ev.neg zO (Ev.pos zO (Ev.pos zO ?_));rw [B_bt l (i + 1) h1];refine Ev.bind (in_is l[i + 1] hexS (by decide)) ?_;rw [hexS_is];cases hA : hexB l[i + 1] with
    | false =>
      rw [Bool.false_and, Bool.false_and];exact Ev.neg (by simp) hF
    | true =>
      refine Ev.pos rfl (Ev.pos zO (Ev.pos zO ?_));rw [B_bt l (i + 2) h3];refine Ev.bind (in_is l[i + 2] hexS (by decide)) ?_;rw [hexS_is];cases hB : hexB l[i + 2] with
      | false =>
        rw [Bool.and_false, Bool.false_and];exact hF
      | true =>
        show Ev _ (atB q (l[i + 1] :: l[i + 2] :: l.drop (i + 3)) && (atB q (l[i + 2] :: l.drop (i + 3)) && suchL q (l.drop (i + 3))))
        rw [hex_at q _ _ hA, hex_at q _ _ hB, Bool.true_and, Bool.true_and];refine Ev.step (fun k => by simp only [tollgateref09_such.j1]; rfl) (Ev.neg (by simp) ?_);rw [hw2, hw3];exact ih (d - 3) (i + 3) zO zO
theorem refsuch_is (q : Bool) (l : List UInt8) (hl : l.length ≤ 4294967296) : Ev (fun k => tollgateref09_such.f k (B l) (B (moreS q))) (suchL q l) := rsuch_is q l hl l.length l.length 0 (zh _) zO
theorem Path_is (l : List UInt8) (hl : l.length ≤ 4294967296) : Ev (fun k => tollgateref09_Path.f k (B l)) (pathL l) := by
  unfold tollgateref09_Path.f pathL;cases l with
  | nil => exact Ev.pos (B_toList []) (Ev.ret rfl)
  | cons x r =>
    have h0 : 0 < (x :: r).length := by simp
    have hb : bt (B (x :: r)) 0 = (x.toNat : Int) := by
      have := B_bt (x :: r) 0 h0;simpa using this
    refine Ev.neg (by rw [B_toList]; simp) (Ev.pos (by rw [B_size]; simp) ?_);rw [hb];by_cases hx : x = 47
    · subst hx;rw [zp (by simp [Lib.hasPrefix, List.isPrefixOf])];exact Ev.pos rfl (Ev.bind (refsuch_is false _ hl) (Ev.ret rfl))
    rw [zn (by simpa [Lib.hasPrefix, List.isPrefixOf] using fun h : (47 : UInt8) = x => hx h.symm)];exact Ev.neg (fun h => hx (UInt8.toNat_inj.1 (by have : (47 : UInt8).toNat = 47 := rfl; omega))) (Ev.ret rfl)
theorem Query_is (l : List UInt8) (hl : l.length ≤ 4294967296) : Ev (fun k => tollgateref09_Query.f k (B l)) (suchL true l) := Ev.bind (refsuch_is true l hl) (Ev.ret rfl)
def restOk (l : List UInt8) (i : Nat) : Bool := (l.drop i).all valB && (if i = 0 then endsOk l else if i < l.length then !blankB (l.getLastD 0) else true)
theorem endsOk_cons {l : List UInt8} (h : 0 < l.length) : endsOk l = (!blankB l[0] && !blankB (l.getLastD 0)) := by
  cases l with
  | nil => simp at h
  | cons x r => rfl
theorem last_get {l : List UInt8} (h : 0 < l.length) : l.getLastD 0 = l[l.length - 1] := by
  rw [List.getLastD_eq_getLast?, List.getLast?_eq_getElem?, zr zO];rfl
theorem rvalue_is (l : List UInt8) (hl : l.length ≤ 4294967296) : ∀ (d i : Nat), i + d = l.length → Ev (fun k => tollgateref09_Value.l0 k (B l) (i : Int)) (restOk l i) := by
  intro d
  induction d with
  | zero =>
    intro i hi;have : restOk l i = true := by
      unfold restOk;rw [List.drop_eq_nil_of_le zO, List.all_nil, Bool.true_and]
      split
      · have : l = [] := List.eq_nil_of_length_eq_zero zO;subst this;rfl
      rw [zn zO]
    rw [this];exact Ev.step (fun k => by simp only [tollgateref09_Value.l0]; rfl) (Ev.neg (by rw [B_size]; omega) (Ev.ret rfl))
  | succ d ih =>
    intro i hi;have hlt : i < l.length := by omega
    have h0 : 0 < l.length := by omega
    have hw := wrap_succ i zO;have hwl : wrap64 ((l.length : Int) - 1) = ((l.length - 1 : Nat) : Int) := by unfold wrap64; omega
    have hdr : l.drop i = l[i] :: l.drop (i + 1) := List.drop_eq_getElem_cons hlt;have hi' := ih (i + 1) zO;have hlast := last_get h0;have hR : restOk l i = (valB l[i] && ((l.drop (i + 1)).all valB && (if i = 0 then endsOk l else !blankB (l.getLastD 0)))) := by
      unfold restOk;rw [hdr, List.all_cons, Bool.and_assoc, zp hlt]
    have hR1 : restOk l (i + 1) = ((l.drop (i + 1)).all valB && (if i + 1 < l.length then !blankB (l.getLastD 0) else true)) := by
      unfold restOk;rw [zn zO]
    -- the byte, once the edge is told
    have hJ : ∀ e : Bool, e = decide (i = 0 ∨ i = l.length - 1) → Ev (fun k => tollgateref09_Value.j1 k (B l) (i : Int) e) (restOk l i) := by
      intro e he;refine Ev.step (fun k => by simp only [tollgateref09_Value.j1]; rfl) (Ev.pos zO (Ev.pos (by rw [B_size]; omega) ?_));rw [B_bt l i hlt];have hJ2 : Ev (fun k => tollgateref09_Value.j2 k (B l) (i : Int) e (l[i].toNat : Int) (blankB l[i])) (restOk l i) := by
        refine Ev.step (fun k => by simp only [tollgateref09_Value.j2]; rfl) ?_;cases hb : blankB l[i] with
        | true =>
          have hv : valB l[i] = true := by
            unfold blankB at hb;unfold valB;rw [decide_eq_true_eq] at hb ⊢;omega
          refine Ev.pos rfl ?_;by_cases hE : i = 0 ∨ i = l.length - 1
          · rw [he, zt hE, hR];refine Ev.pos rfl (Ev.ret ?_);by_cases hi0 : i = 0
            · subst hi0;rw [zp rfl, endsOk_cons h0, hb];simp
            have hie : i = l.length - 1 := by omega
            rw [zn hi0, hlast];have : l[l.length - 1] = l[i] := by congr 1; omega
            rw [this, hb];simp
          rw [he, zf hE];refine Ev.neg (by simp) ?_;rw [hw];refine Ev.res hi' ?_;rw [hR, hR1, hv, Bool.true_and, zp (show i + 1 < l.length by omega), zn (show ¬ i = 0 by omega)]
        | false =>
          refine Ev.neg (by simp) ?_;have hblank : ¬ (l[i].toNat = 9 ∨ l[i].toNat = 32) := by
            unfold blankB at hb;exact of_decide_eq_false hb
          by_cases h1 : l[i].toNat < 32
          · have hv : valB l[i] = false := by
              unfold valB;rw [decide_eq_false_iff_not];omega
            rw [hR, hv, Bool.false_and];exact Ev.pos zO (Ev.ret rfl)
          refine Ev.neg zO ?_;by_cases h2 : l[i].toNat = 127
          · have hv : valB l[i] = false := by
              unfold valB;rw [decide_eq_false_iff_not];omega
            rw [hR, hv, Bool.false_and];exact Ev.pos zO (Ev.ret rfl)
          have hv : valB l[i] = true := by
            unfold valB;rw [decide_eq_true_eq];omega
          refine Ev.neg zO ?_;rw [hw];refine Ev.res hi' ?_;rw [hR, hR1, hv, Bool.true_and]
          congr 1
          by_cases hi1 : i + 1 < l.length
          · rw [zp hi1];by_cases hi0 : i = 0
            · subst hi0;rw [zp rfl, endsOk_cons h0, hb];simp
            rw [zn hi0]
          rw [zn hi1];have hlb : blankB (l.getLastD 0) = false := by
            rw [hlast];have : l[l.length - 1] = l[i] := by congr 1; omega
            rw [this, hb]
          by_cases hi0 : i = 0
          · subst hi0;rw [zp rfl, endsOk_cons h0, hb, hlb];rfl
          rw [zn hi0, hlb];rfl
      by_cases h9 : l[i].toNat = 9
      · have hb : blankB l[i] = true := by unfold blankB; exact zt (.inl h9)
        rw [hb] at hJ2;exact Ev.pos zO hJ2
      have hb : ((l[i].toNat : Int) == 32) = blankB l[i] := by
        unfold blankB;rw [show ((l[i].toNat : Int) == 32) = decide ((l[i].toNat : Int) = 32) from rfl, decide_eq_decide];omega
      refine Ev.neg zO ?_;rw [hb];exact hJ2
    refine Ev.step (fun k => by simp only [tollgateref09_Value.l0]; rfl) (Ev.pos (by rw [B_size]; omega) ?_);by_cases hi0 : i = 0
    · exact Ev.pos zO (hJ true (by rw [zt (.inl hi0)]))
    refine Ev.neg zO ?_;rw [B_size, hwl];refine hJ _ ?_;rw [show ((i : Int) == ((l.length - 1 : Nat) : Int)) = decide ((i : Int) = ((l.length - 1 : Nat) : Int)) from rfl, decide_eq_decide];omega
theorem Value_is (l : List UInt8) (hl : l.length ≤ 4294967296) : Ev (fun k => tollgateref09_Value.f k (B l)) (valOk l) := by
  have h := rvalue_is l hl l.length 0 zO;unfold restOk at h;rw [List.drop_zero, zp rfl] at h;exact h
theorem lowB_nat (b : UInt8) : ((lowB b).toNat : Int) = if 65 ≤ b.toNat ∧ b.toNat ≤ 90 then ((b.toNat : Int) + 32) % 256 else (b.toNat : Int) := by
  by_cases h : 65 ≤ b.toNat ∧ b.toNat ≤ 90
  · rw [zp h, lowB_up h];omega
  rw [zn h];unfold lowB;rw [zn h]
theorem rlower_is (l : List UInt8) (hl : l.length ≤ 4294967296) : ∀ (d i : Nat), i + d = l.length → Ev (fun k => tollgateref09_Lower.l0 k (B l) (bytesOf (B ((l.take i).map lowB))) (i : Int)) (B (l.map lowB)) := by
  intro d
  induction d with
  | zero =>
    intro i hi;refine Ev.step (fun k => by simp only [tollgateref09_Lower.l0]; rfl) (Ev.neg (by rw [B_size]; omega) (Ev.ret ?_));rw [N8_B, strOf_N8, List.take_of_length_le zO]
  | succ d ih =>
    intro i hi;have hlt : i < l.length := by omega
    have hw := wrap_succ i zO;have hi' := ih (i + 1) zO;have hlen : (bytesOf (B ((l.take i).map lowB))).length < 140737488355328 := by rw [N8_len, List.length_map, List.length_take]; omega
    have hs : bytesOf (B ((l.take (i + 1)).map lowB)) = bytesOf (B ((l.take i).map lowB)) ++ [((lowB l[i]).toNat : Int)] := by
      rw [List.take_succ_eq_append_getElem hlt, List.map_append, ← N8_app];rfl
    rw [hs, lowB_nat] at hi';refine Ev.step (fun k => by simp only [tollgateref09_Lower.l0]; rfl) (Ev.pos (by rw [B_size]; omega) (Ev.pos zO ?_));rw [B_bt l i hlt, hw];by_cases h1 : 65 ≤ l[i].toNat
    · by_cases h2 : l[i].toNat ≤ 90
      · rw [zp ⟨h1, h2⟩] at hi';exact Ev.pos zO (Ev.pos zO (Ev.pos hlen hi'))
      rw [zn (fun h => h2 h.2)] at hi';exact Ev.pos zO (Ev.neg zO (Ev.pos hlen hi'))
    rw [zn (fun h => h1 h.1)] at hi';exact Ev.neg zO (Ev.pos hlen hi')
theorem rLower_is (l : List UInt8) (hl : l.length ≤ 4294967296) : Ev (fun k => tollgateref09_Lower.f k (B l)) (B (l.map lowB)) := rlower_is l hl l.length 0 zO
theorem rcut_is (c : UInt8) (l : List UInt8) (hl : l.length ≤ 4294967296) : ∀ (s a : List UInt8), l = a ++ s → c ∉ a → Ev (fun k => tollgateref09_cut.l0 k (B l) (c.toNat : Int) (a.length : Int)) (B (cutC c l).1, B (cutC c l).2.1, (cutC c l).2.2) := by
  intro s
  induction s with
  | nil =>
    intro a ha hc;rw [List.append_nil] at ha;subst ha;rw [cutC_no c l hc];exact Ev.step (fun k => by simp only [tollgateref09_cut.l0]; rfl) (Ev.neg (by rw [B_size]; omega) (Ev.ret rfl))
  | cons x s ih =>
    intro a ha hc;have hlen : l.length = a.length + (s.length + 1) := by rw [ha]; simp
    have hlt : a.length < l.length := by omega
    have hx : l[a.length] = x := by simp [ha]
    have hw := wrap_succ a.length zO;refine Ev.step (fun k => by simp only [tollgateref09_cut.l0]; rfl) (Ev.pos (by rw [B_size]; omega) (Ev.pos zO ?_));rw [B_bt l a.length hlt, hx, hw, B_size];by_cases h : x = c
    · subst h;refine Ev.pos rfl (Ev.pos zO (Ev.pos zO (Ev.pos zO (Ev.ret ?_))));rw [B_extract, B_extract, Int.toNat_natCast, Int.toNat_natCast, List.drop_zero, Nat.sub_zero, ha, cutC_one x s a hc];have e1 : (a ++ x :: s).take a.length = a := List.take_left' rfl;have e2 : (a ++ x :: s).drop (a.length + 1) = s := by simp
      rw [e1, e2, List.take_of_length_le (by simp; omega)]
    refine Ev.neg (fun he => h (UInt8.toNat_inj.1 zO)) ?_;have := ih (a ++ [x]) (by rw [ha]; simp) (by simp [hc]; exact fun e => h e.symm);rw [List.length_append] at this;exact this
theorem rCut_is (c : UInt8) (l : List UInt8) (hl : l.length ≤ 4294967296) : Ev (fun k => tollgateref09_cut.f k (B l) (c.toNat : Int)) (B (cutC c l).1, B (cutC c l).2.1, (cutC c l).2.2) := rcut_is c l hl l [] rfl (by simp)
def dotsR : Bool → List UInt8 → Bool
  | pv, [] => !pv
  | pv, c :: r => if c = 46 then !pv && dotsR true r else hbB c && dotsR false r
theorem splitC_ne (c : UInt8) : ∀ l, ∃ x r, splitC c l = x :: r
  | [] => ⟨[], [], rfl⟩
  | b :: l => by
    rw [splitC]
    split
    · exact ⟨_, _, rfl⟩
    obtain ⟨x, r, h⟩ := splitC_ne c l;rw [h];exact ⟨_, _, rfl⟩
theorem dots_is : ∀ (l x : List UInt8) (r : List (List UInt8)), splitC 46 l = x :: r → dotsR false l = (x.all hbB && r.all partOk) ∧ dotsR true l = (partOk x && r.all partOk) := by
  intro l
  induction l with
  | nil =>
    intro x r h;simp only [splitC, List.cons.injEq] at h;obtain ⟨rfl, rfl⟩ := h;exact ⟨rfl, rfl⟩
  | cons c l ih =>
    intro x r h;obtain ⟨y, s, hs⟩ := splitC_ne 46 l;obtain ⟨i1, i2⟩ := ih y s hs;rw [splitC, hs] at h;by_cases hc : c = 46
    · rw [zp hc] at h;simp only [List.cons.injEq] at h;obtain ⟨rfl, rfl⟩ := h;simp only [dotsR, zp hc, i2];exact ⟨by simp, by simp [partOk]⟩
    rw [zn hc] at h;simp only [List.cons.injEq] at h;obtain ⟨rfl, rfl⟩ := h;simp only [dotsR, zn hc, i1];have hcy : (c :: y != []) = true := rfl;exact ⟨by simp [Bool.and_assoc], by simp only [partOk, List.all_cons, hcy, Bool.and_true, Bool.and_assoc]⟩
theorem dots_all (l : List UInt8) : (splitC 46 l).all partOk = dotsR true l := by
  obtain ⟨x, r, h⟩ := splitC_ne 46 l;rw [h, List.all_cons, (dots_is l x r h).2]
theorem dots_bytes : ∀ (l : List UInt8) (pv : Bool), dotsR pv l = true → l.all (fun c => hbB c || decide (c = 46)) = true
  | [], _, _ => rfl
  | c :: l, pv, h => by
    rw [dotsR] at h;rw [List.all_cons, Bool.and_eq_true];by_cases hc : c = 46
    · rw [zp hc, Bool.and_eq_true] at h;exact ⟨by simp [hc], dots_bytes l true h.2⟩
    rw [zn hc, Bool.and_eq_true] at h;exact ⟨by simp [h.1], dots_bytes l false h.2⟩
def hbS : List UInt8 := [97, 98, 99, 100, 101, 102, 103, 104, 105, 106, 107, 108, 109, 110, 111, 112, 113, 114, 115, 116, 117, 118, 119, 120, 121, 122, 65, 66, 67, 68, 69, 70, 71, 72, 73, 74, 75, 76, 77, 78, 79, 80, 81, 82, 83, 84, 85, 86, 87, 88, 89, 90, 48, 49, 50, 51, 52, 53, 54, 55, 56, 57, 45, 46]
def digS : List UInt8 := [48, 49, 50, 51, 52, 53, 54, 55, 56, 57]
theorem hbS_is : ∀ b : UInt8, hbS.contains b = (hbB b || decide (b = 46)) := u8_all (P := fun b => hbS.contains b = (hbB b || decide (b = 46))) (by decide +kernel)
theorem digS_is : ∀ b : UInt8, digS.contains b = digB b := u8_all (by decide +kernel)
theorem rhost_is (h : List UInt8) (hl : h.length ≤ 4294967296) (hall : h.all (fun c => hbB c || decide (c = 46)) = true) : ∀ (d i : Nat) (pv : Bool), i + d = h.length → (pv = true → i < h.length) → (pv = true ↔ i = 0 ∨ h[i - 1]? = some 46) →
    Ev (fun k => tollgateref09_Host.l0 k (B h) (i : Int)) (if dotsR pv (h.drop i) = true then (B (h.map lowB), true) else (B [], false)) := by
  intro d
  induction d with
  | zero =>
    intro i pv hi hp _;have hpf : pv = false := by
      cases pv with
      | false => rfl
      | true => have := hp rfl; omega
    rw [List.drop_eq_nil_of_le zO, hpf, zp (show dotsR false [] = true from rfl)];exact Ev.step (fun k => by simp only [tollgateref09_Host.l0]; rfl) (Ev.neg (by rw [B_size]; omega) (Ev.bind (rLower_is h hl) (Ev.ret rfl)))
  | succ d ih =>
    intro i pv hi hp hpv;have hlt : i < h.length := by omega
    have hw := wrap_succ i zO;have hwl : wrap64 ((h.length : Int) - 1) = ((h.length - 1 : Nat) : Int) := by unfold wrap64; omega
    have hdr : h.drop i = h[i] :: h.drop (i + 1) := List.drop_eq_getElem_cons hlt;rw [hdr, dotsR];refine Ev.step (fun k => by simp only [tollgateref09_Host.l0]; rfl) (Ev.pos (by rw [B_size]; omega) (Ev.pos zO ?_));rw [B_bt h i hlt, hw, B_size, hwl];by_cases h46 : h[i] = 46;rotate_left
    · rw [zn h46];refine Ev.neg (fun he => h46 (UInt8.toNat_inj.1 (by have : (46 : UInt8).toNat = 46 := rfl; omega))) ?_;have hb : hbB h[i] = true := by
        have := (List.all_eq_true.1 hall) h[i] (List.getElem_mem hlt);simpa [h46] using this
      have hno : i + 1 = 0 ∨ h[i + 1 - 1]? = some 46 → false = true := by
        intro hh
        rcases hh with hh | hh
        · omega
        rw [Nat.add_sub_cancel, zr hlt] at hh;exact absurd (zo hh) h46
      have := ih (i + 1) false zO (fun hh => by cases hh) ⟨fun hh => (by cases hh), hno⟩;rw [hb, Bool.true_and];exact this
    rw [zp h46];refine Ev.pos (by rw [h46]; rfl) ?_;by_cases hi0 : i = 0
    · rw [hpv.2 (.inl hi0)];exact Ev.pos zO (Ev.ret rfl)
    refine Ev.neg zO ?_;by_cases hie : i = h.length - 1
    · rw [List.drop_eq_nil_of_le zO];rw [show (!pv && dotsR true []) = false by simp [dotsR]];exact Ev.pos zO (Ev.ret rfl)
    have hw1 : wrap64 ((i : Int) - 1) = ((i - 1 : Nat) : Int) := by unfold wrap64; omega
    refine Ev.neg zO ?_;rw [hw1];refine Ev.pos zO (Ev.pos zO ?_);rw [B_bt h (i - 1) zO];have hge : h[i - 1]? = some h[i - 1] := zr zO;by_cases hpd : h[i - 1] = 46
    · rw [hpv.2 (.inr (by rw [hge, hpd]))];exact Ev.pos (by rw [hpd]; rfl) (Ev.ret rfl)
    have hpf : pv = false := by
      cases pv with
      | false => rfl
      | true =>
        rcases hpv.1 rfl with h1 | h1
        · exact absurd h1 hi0
        rw [hge] at h1;exact absurd (zo h1) hpd
    rw [hpf];refine Ev.neg (fun he => hpd (UInt8.toNat_inj.1 (by have : (46 : UInt8).toNat = 46 := rfl; omega))) ?_;have := ih (i + 1) true zO (fun _ => by omega) ⟨fun _ => .inr (by rw [Nat.add_sub_cancel, zr hlt, h46]), fun _ => rfl⟩;simpa using this
theorem rHost_is (l : List UInt8) (hl : l.length ≤ 1000000000) : Ev (fun k => tollgateref09_Host.f k (B l)) (hostR l) := by
  have hc := rCut_is 58 l zO;obtain ⟨l1, l2⟩ := cut_le l [58];unfold hostR hostS;rw [split_is 46 _ _ (zh _), cut_is, dots_all];rw [cut_is] at l1 l2;unfold tollgateref09_Host.f;refine Ev.bind hc ?_;generalize (cutC 58 l).1 = h at *;generalize (cutC 58 l).2.1 = port at *;have hF : Ev (fun k => tollgateref09_Host.j0 k (B h) true) (B ([] : List UInt8), false) := Ev.step (fun k => by simp only [tollgateref09_Host.j0]; rfl) (Ev.pos (by trivial) (Ev.ret rfl));by_cases h1 : h.length < 1
  · have : h = [] := List.eq_nil_of_length_eq_zero zO;subst this;rw [zn (fun hh => by have := hh.2.2.2; simp [dotsR] at this)];exact Ev.pos (by rw [B_size]; simp) hF
  refine Ev.neg (by rw [B_size]; omega) ?_;by_cases h2 : h.length ≤ 64;rotate_left
  · rw [zn (fun hh => h2 hh.2.2.1)];exact Ev.pos (by rw [B_size]; omega) hF
  refine Ev.neg (by rw [B_size]; omega) ?_;by_cases h3 : port.length ≤ 5;rotate_left
  · rw [zn (fun hh => h3 hh.2.1)];exact Ev.pos (by rw [B_size]; omega) hF
  refine Ev.neg (by rw [B_size]; omega) (Ev.bind (all_is port digS zO (by decide)) ?_);rw [show digS.contains = digB from funext digS_is];by_cases h4 : port.all digB = true;rotate_left
  · rw [zn (fun hh => h4 hh.1)];exact Ev.neg h4 hF
  refine Ev.pos h4 (Ev.bind (all_is h hbS zO (by decide)) ?_);rw [show hbS.contains = (fun c => hbB c || decide (c = 46)) from funext hbS_is];by_cases h5 : h.all (fun c => hbB c || decide (c = 46)) = true
  · rw [h5];refine Ev.step (fun k => by simp only [tollgateref09_Host.j0]; rfl) (Ev.neg (by simp) ?_);have := rhost_is h zO h5 h.length 0 true zO (fun _ => by omega) ⟨fun _ => .inl rfl, fun _ => rfl⟩;rw [List.drop_zero] at this;refine Ev.res this ?_;by_cases h6 : dotsR true h = true
    · rw [zp h6, zp ⟨h4, h3, h2, h6⟩]
    rw [zn h6, zn (fun hh => h6 hh.2.2.2)]
  rw [zn (fun hh => h5 (dots_bytes _ _ hh.2.2.2)), Bool.eq_false_iff.2 h5];exact hF
end Go.Proofs.YtahaihnlkohhgaaGreatDoor.HP
namespace Go.Proofs.YtahaihnlkohhgaaGreatDoor.HP
open Go.RowKit Go.Proofs.YtahaihnlkohhgaaGreatDoor.S Go.Proofs.YtahaihnlkohhgaaGreatDoorW.PrintWords Go.Proofs.YtahaihnlkohhgaaGreatDoorW.PrintLast Go.Proofs.YtahaihnlkohhgaaGreatDoorW.PrintMore
theorem nil_or_snoc (l : List UInt8) : l = [] ∨ ∃ r c, l = r ++ [c] := by
  rcases List.eq_nil_or_concat l with h | ⟨r, c, h⟩
  · exact .inl h
  exact .inr ⟨r, c, by rw [h, List.concat_eq_append]⟩
def isBl (c : UInt8) : Bool := ([9, 32] : List UInt8).contains c
theorem isBl_iff (c : UInt8) : isBl c = true ↔ c.toNat = 9 ∨ c.toNat = 32 := by
  unfold isBl;simp only [List.contains_cons, List.contains_nil, Bool.or_false, Bool.or_eq_true, beq_iff_eq]
  constructor
  · rintro (rfl | rfl)
    · exact .inl rfl
    exact .inr rfl
  rintro (h | h)
  · exact .inl (UInt8.toNat_inj.1 h)
  exact .inr (UInt8.toNat_inj.1 h)
def rtrim (l : List UInt8) : List UInt8 := (l.reverse.dropWhile isBl).reverse
theorem rtrim_snoc (l : List UInt8) (c : UInt8) : rtrim (l ++ [c]) = if isBl c = true then rtrim l else l ++ [c] := by
  unfold rtrim;rw [List.reverse_append]
  show (List.dropWhile isBl (c :: l.reverse)).reverse = _
  rw [List.dropWhile_cons]
  split
  · rfl
  simp
theorem trim_swap : ∀ (l : List UInt8), (rtrim l).dropWhile isBl = rtrim (l.dropWhile isBl) := by
  have h : ∀ (n : Nat) (l : List UInt8), l.length = n → (rtrim l).dropWhile isBl = rtrim (l.dropWhile isBl) := by
    intro n
    induction n with
    | zero =>
      intro l hl;obtain rfl := List.eq_nil_of_length_eq_zero hl;rfl
    | succ n ih =>
      intro l hl
      rcases nil_or_snoc l with rfl | ⟨r, c, rfl⟩
      · rfl
      have hr : r.length = n := by simpa using hl
      rw [rtrim_snoc];by_cases hc : isBl c = true
      · rw [zp hc, ih r hr];have h2 : (r ++ [c]).dropWhile isBl = r.dropWhile isBl ++ [c] ∨ ((r ++ [c]).dropWhile isBl = [] ∧ r.dropWhile isBl = []) := by
          rw [List.dropWhile_append]
          split
          · rename_i he
            right
            refine ⟨by simp [hc], by simpa using he⟩
          exact .inl rfl
        rcases h2 with h2 | ⟨h2, h3⟩
        · rw [h2, rtrim_snoc, zp hc]
        rw [h2, h3]
      rw [zn hc];have h2 : (r ++ [c]).dropWhile isBl = r.dropWhile isBl ++ [c] := by
        rw [List.dropWhile_append]
        split
        · rename_i he
          have : r.dropWhile isBl = [] := by simpa using he
          rw [this];simp [hc]
        rfl
      rw [h2, rtrim_snoc, zn hc]
  exact fun l => h l.length l rfl
theorem trimS_is (l : List UInt8) : Lib.trimS l [9, 32] = rtrim (l.dropWhile isBl) := by
  rw [← trim_swap];rfl
theorem rtrim_loop : ∀ (n : Nat) (l : List UInt8), l.length = n → n ≤ 4294967296 → Ev (fun k => tollgateref09_trimmed.l1 k (B l)) (B (rtrim l)) := by
  intro n
  induction n with
  | zero =>
    intro l hl _;obtain rfl := List.eq_nil_of_length_eq_zero hl;exact Ev.step (fun k => by simp only [tollgateref09_trimmed.l1]; rfl) (Ev.neg (by rw [B_size]; simp) (Ev.ret rfl))
  | succ n ih =>
    intro l hl hn
    rcases nil_or_snoc l with rfl | ⟨r, c, rfl⟩
    · simp at hl
    have hr : r.length = n := by simpa using hl
    have hI := ih r hr zO;have hw : wrap64 (((r ++ [c]).length : Int) - 1) = (r.length : Int) := by
      rw [List.length_append];unfold wrap64;simp;omega
    have hb : bt (B (r ++ [c])) (r.length : Int) = (c.toNat : Int) := by
      rw [B_bt _ _ (by simp)];simp
    have hx : (B (r ++ [c])).extract 0 ((r.length : Int)).toNat = B r := by
      rw [Int.toNat_natCast, B_extract, List.drop_zero, Nat.sub_zero, List.take_left' rfl]
    have hlen : (r ++ [c]).length = r.length + 1 := by simp
    rw [rtrim_snoc];refine Ev.step (fun k => by simp only [tollgateref09_trimmed.l1]; rfl) ?_;rw [B_size, hw, hb, hx];clear hw;refine Ev.pos zO (Ev.pos zO (Ev.pos zO ?_));by_cases h9 : c.toNat = 9
    · rw [zp ((isBl_iff c).2 (.inl h9))];exact Ev.pos zO (Ev.pos zO hI)
    refine Ev.neg zO ?_;by_cases h32 : c.toNat = 32
    · rw [zp ((isBl_iff c).2 (.inr h32))];exact Ev.pos zO (Ev.pos zO hI)
    rw [zn (fun h => by have := (isBl_iff c).1 h; omega)];exact Ev.neg zO (Ev.ret rfl)
theorem ltrim_loop : ∀ (l : List UInt8), l.length ≤ 4294967296 → Ev (fun k => tollgateref09_trimmed.l0 k (B l)) (B (rtrim (l.dropWhile isBl)))
  | [], _ => by
    refine Ev.step (fun k => by simp only [tollgateref09_trimmed.l0]; rfl) (Ev.neg (by rw [B_size]; simp) ?_);exact Ev.step (fun k => by simp only [tollgateref09_trimmed.j1]) (rtrim_loop 0 [] rfl zO)
  | c :: r, hl => by
    have hr : r.length ≤ 4294967296 := by simp at hl; omega
    have hI := ltrim_loop r hr;have h0 : bt (B (c :: r)) 0 = (c.toNat : Int) := by
      have := B_bt (c :: r) 0 (by simp);simpa using this
    have hx : (B (c :: r)).extract 1 (c :: r).length = B r := by
      rw [B_extract];simp
    have hlen : (c :: r).length = r.length + 1 := rfl;rw [List.dropWhile_cons];refine Ev.step (fun k => by simp only [tollgateref09_trimmed.l0]; rfl) ?_;rw [h0, B_size, hx];refine Ev.pos zO (Ev.pos zO ?_);by_cases h9 : c.toNat = 9
    · rw [zp ((isBl_iff c).2 (.inl h9))];exact Ev.pos zO (Ev.pos zO hI)
    refine Ev.neg zO ?_;by_cases h32 : c.toNat = 32
    · rw [zp ((isBl_iff c).2 (.inr h32))];exact Ev.pos zO (Ev.pos zO hI)
    rw [zn (fun h => by have := (isBl_iff c).1 h; omega)];refine Ev.neg zO ?_;exact Ev.step (fun k => by simp only [tollgateref09_trimmed.j1]) (rtrim_loop (r.length + 1) (c :: r) rfl zO)
theorem trimmed_is (l : List UInt8) (hl : l.length ≤ 4294967296) : Ev (fun k => tollgateref09_trimmed.f k (B l)) (B (Lib.trimS l [9, 32])) := by
  rw [trimS_is];exact ltrim_loop l hl
def consH (p : List UInt8) : List (List UInt8) → List (List UInt8)
  | [] => [p]
  | x :: r => (p ++ x) :: r
def linesR : List UInt8 → List (List UInt8)
  | [] => [[]]
  | [c] => [[c]]
  | c :: d :: r => if c = 13 ∧ d = 10 then [] :: linesR r else consH [c] (linesR (d :: r))
theorem split_step {s : List UInt8} {i : Nat} (h : Lib.index s [13, 10] = (i : Int)) : Lib.split s [13, 10] = s.take i :: Lib.split (s.drop (i + 2)) [13, 10] := by
  unfold Lib.split;rw [Lib.count_hit (by simp) h, Nat.add_comm];simp only [Lib.splitK];rw [h, zn (by simp), Int.toNat_natCast, Nat.add_zero, show ([13, 10] : List UInt8).length = 2 from rfl]
theorem split_miss {s : List UInt8} (h : Lib.index s [13, 10] = -1) : Lib.split s [13, 10] = [s] := by
  unfold Lib.split;rw [Lib.count_miss h];rfl
theorem index_cons (c : UInt8) (l sub : List UInt8) : Lib.index (c :: l) sub = if sub.isPrefixOf (c :: l) then 0 else if Lib.index l sub == -1 then -1 else Lib.index l sub + 1 := rfl
theorem split_lines : ∀ (n : Nat) (s : List UInt8), s.length ≤ n → Lib.split s [13, 10] = linesR s := by
  intro n
  induction n with
  | zero =>
    intro s hs;obtain rfl := List.eq_nil_of_length_eq_zero (Nat.le_zero.1 hs);rfl
  | succ n ih =>
    intro s hs
    match s, hs with
    | [], _ => rfl
    | [c], _ =>
      refine split_miss ?_;rw [index_cons, zn (by simp [List.isPrefixOf])];rfl
    | c :: d :: r, hs =>
      have hlen : (d :: r).length ≤ n := by simp at hs ⊢; omega
      rw [linesR];by_cases h : c = 13 ∧ d = 10
      · rw [zp h];obtain ⟨rfl, rfl⟩ := h;have hi : Lib.index (13 :: 10 :: r) [13, 10] = ((0 : Nat) : Int) := by
          rw [index_cons, zp (by simp [List.isPrefixOf])];rfl
        rw [split_step hi]
        show [] :: Lib.split r [13, 10] = _
        rw [ih r (by simp at hlen; omega)]
      rw [zn h];have hp : ([13, 10] : List UInt8).isPrefixOf (c :: d :: r) = false := by
        cases hq : ([13, 10] : List UInt8).isPrefixOf (c :: d :: r) with
        | false => rfl
        | true =>
          exfalso
          apply h;simp [List.isPrefixOf] at hq;exact ⟨hq.1.symm, hq.2.symm⟩
      have hI := ih (d :: r) hlen;have hc := index_cons c (d :: r) [13, 10];rw [hp, zn (by simp)] at hc;have hge := Lib.index_ge (d :: r) [13, 10];by_cases hm : Lib.index (d :: r) [13, 10] = -1
      · rw [hm] at hc;rw [split_miss (by rw [hc]; rfl)];rw [split_miss hm] at hI;rw [← hI];rfl
      obtain ⟨i, hi⟩ : ∃ i : Nat, Lib.index (d :: r) [13, 10] = (i : Int) := ⟨(Lib.index (d :: r) [13, 10]).toNat, zO⟩;have hc2 : Lib.index (c :: d :: r) [13, 10] = ((i + 1 : Nat) : Int) := by
        rw [hc, hi, zn (by simp)];rfl
      rw [split_step hc2];rw [split_step hi] at hI;rw [← hI];rfl
theorem linesR_ne : ∀ s, ∃ x r, linesR s = x :: r
  | [] => ⟨_, _, rfl⟩
  | [_] => ⟨_, _, rfl⟩
  | c :: d :: r => by
    rw [linesR]
    split
    · exact ⟨_, _, rfl⟩
    obtain ⟨x, y, h⟩ := linesR_ne (d :: r);rw [h];exact ⟨_, _, rfl⟩
theorem consH_consH (p : List UInt8) (c : UInt8) (s : List UInt8) : consH p (consH [c] (linesR s)) = consH (p ++ [c]) (linesR s) := by
  obtain ⟨x, r, h⟩ := linesR_ne s;rw [h];simp [consH]
theorem take_mid (s : List UInt8) (f i : Nat) (h1 : f ≤ i) (h2 : i < s.length) : (s.drop f).take (i + 1 - f) = (s.drop f).take (i - f) ++ [s[i]] := by
  have h3 : i - f < (s.drop f).length := by rw [List.length_drop]; omega
  rw [show i + 1 - f = (i - f) + 1 by omega, List.take_succ_eq_append_getElem h3]
  congr 2
  rw [List.getElem_drop]
  congr 1
  omega
theorem lines_loop (s : List UInt8) (hs : s.length ≤ 1000000000) : ∀ (n i f : Nat) (acc : List (List UInt8)), s.length - i ≤ n → f ≤ i → i ≤ s.length → acc.length ≤ i →
    Ev (fun k => tollgateref09_lines.l0 k (B s) (acc.map B) (f : Int) (i : Int)) ((acc ++ consH ((s.drop f).take (i - f)) (linesR (s.drop i))).map B) := by
  intro n
  induction n with
  | zero =>
    intro i f acc hn hf hi ha;have hw := wrap_succ i zO;have e : i = s.length := by omega
    have hx : (B s).extract (f : Int).toNat s.length = B (s.drop f) := by
      rw [Int.toNat_natCast, B_extract, List.take_of_length_le (by simp)]
    refine Ev.step (fun k => by simp only [tollgateref09_lines.l0]; rfl) ?_;rw [hw, B_size, hx];clear hw;refine Ev.neg zO (Ev.pos zO (Ev.pos zO (Ev.pos (by rw [List.length_map]; omega) (Ev.ret ?_))));subst e;have hL : linesR (s.drop s.length) = [[]] := by rw [List.drop_length]; rfl
    rw [hL];have h2 : (s.drop f).take (s.length - f) = s.drop f := List.take_of_length_le (by simp);rw [h2];simp [consH]
  | succ n ih =>
    intro i f acc hn hf hi ha;have hw := wrap_succ i zO;have hw2 : wrap64 ((i : Int) + 2) = ((i + 2 : Nat) : Int) := by unfold wrap64; omega
    have hw3 := wrap_succ (i + 1) zO;have hx : (B s).extract (f : Int).toNat s.length = B (s.drop f) := by
      rw [Int.toNat_natCast, B_extract, List.take_of_length_le (by simp)]
    have hx2 : (B s).extract (f : Int).toNat (i : Int).toNat = B ((s.drop f).take (i - f)) := by
      rw [Int.toNat_natCast, Int.toNat_natCast, B_extract]
    refine Ev.step (fun k => by simp only [tollgateref09_lines.l0]; rfl) ?_;rw [hw, hw2, hw3, B_size, hx, hx2];clear hw hw2 hw3 hx hx2;by_cases h1 : i + 1 < s.length;rotate_left
    · refine Ev.neg zO (Ev.pos zO (Ev.pos zO (Ev.pos (by rw [List.length_map]; omega) (Ev.ret ?_))));by_cases he : i = s.length
      · have hL : linesR (s.drop i) = [[]] := by rw [he, List.drop_length]; rfl
        have h2 : (s.drop f).take (i - f) = s.drop f := List.take_of_length_le (by rw [List.length_drop]; omega);rw [hL, h2];simp [consH]
      have hlt : i < s.length := by omega
      have hL : linesR (s.drop i) = [[s[i]]] := by
        rw [List.drop_eq_getElem_cons hlt, List.drop_eq_nil_of_le zO];rfl
      have h2 : (s.drop f).take (i - f) ++ [s[i]] = s.drop f := by
        rw [← take_mid s f i hf hlt];exact List.take_of_length_le (by rw [List.length_drop]; omega)
      rw [hL];simp [consH, h2]
    have hd : s.drop i = s[i] :: s[i + 1] :: s.drop (i + 2) := by
      rw [List.drop_eq_getElem_cons (show i < s.length by omega), List.drop_eq_getElem_cons h1]
    refine Ev.pos zO (Ev.pos zO (Ev.pos zO ?_));rw [B_bt s i zO, hd, linesR];have hgo : Ev (fun k => tollgateref09_lines.l0 k (B s) (acc.map B) (f : Int) ((i + 1 : Nat) : Int)) ((acc ++ consH ((s.drop f).take (i - f)) (consH [s[i]] (linesR (s[i + 1] :: s.drop (i + 2))))).map B) := by
      have hI := ih (i + 1) f acc zO zO zO zO;rw [take_mid s f i hf zO, List.drop_eq_getElem_cons h1, ← consH_consH] at hI;exact hI
    by_cases h13 : s[i] = 13;rotate_left
    · rw [zn (fun h => h13 h.1)];exact Ev.neg (fun he => h13 (UInt8.toNat_inj.1 (by have : (13 : UInt8).toNat = 13 := rfl; omega))) hgo
    refine Ev.pos (by rw [h13]; rfl) (Ev.pos zO ?_);rw [B_bt s (i + 1) h1];by_cases h10 : s[i + 1] = 10
    · rw [zp ⟨h13, h10⟩];have hI := ih (i + 2) (i + 2) (acc ++ [(s.drop f).take (i - f)]) zO zO zO (by simp; omega);rw [Nat.sub_self, List.take_zero] at hI;have hc : ∀ L x r, L = x :: r → consH ([] : List UInt8) L = L := by rintro _ x r rfl; rfl
      obtain ⟨x, r, hL⟩ := linesR_ne (s.drop (i + 2));rw [hc _ x r hL] at hI;refine Ev.pos (by rw [h10]; rfl) (Ev.pos zO (Ev.pos zO (Ev.pos zO (Ev.pos (by rw [List.length_map]; omega) ?_))));rw [List.map_append] at hI;refine Ev.res hI ?_;simp [consH]
    rw [zn (fun h => h10 h.2)];exact Ev.neg (fun he => h10 (UInt8.toNat_inj.1 (by have : (10 : UInt8).toNat = 10 := rfl; omega))) hgo
theorem lines_is (s : List UInt8) (hs : s.length ≤ 1000000000) : Ev (fun k => tollgateref09_lines.f k (B s)) ((Lib.split s [13, 10]).map B) := by
  have h := lines_loop s hs s.length 0 0 [] zO zO zO (by simp);obtain ⟨x, r, hL⟩ := linesR_ne s;rw [List.drop_zero, Nat.sub_self, List.take_zero, hL] at h;rw [split_lines s.length s (zh _), hL];exact h
end Go.Proofs.YtahaihnlkohhgaaGreatDoor.HP
end
section
namespace Go.Proofs.YtahaihnlkohhgaaGreatDoor.HP
open Go.RowKit Go.Proofs.YtahaihnlkohhgaaGreatDoor.S Go.Proofs.YtahaihnlkohhgaaGreatDoorW.PrintWords Go.Proofs.YtahaihnlkohhgaaGreatDoorW.PrintLast Go.Proofs.YtahaihnlkohhgaaGreatDoorW.PrintMore
theorem begins_is (p : List UInt8) : tollgateref09_begins.f (B p) (⟨#[104, 116, 116, 112, 58, 47, 47]⟩ : ByteArray) = some (Lib.hasPrefix p httpL) := by
  unfold tollgateref09_begins.f;have hs : (⟨#[104, 116, 116, 112, 58, 47, 47]⟩ : ByteArray).size = 7 := rfl;have ht : (⟨#[104, 116, 116, 112, 58, 47, 47]⟩ : ByteArray).toList = httpL := B_toList httpL;have h := Lib.hasPrefix_of_take p httpL;rw [hs, B_size, ht];by_cases h7 : 7 ≤ p.length
  · rw [zp (show ((p.length : Nat) : Int) ≥ ((7 : Nat) : Int) by omega), zp zO, zp (show ((7 : Nat) : Int) ≤ (p.length : Int) by omega), Int.toNat_natCast, B_extract, B_toList, List.drop_zero, ← h];have : decide (httpL.length ≤ p.length) = true := zt h7;rw [this, Bool.true_and];rfl
  rw [zn (show ¬ ((p.length : Nat) : Int) ≥ ((7 : Nat) : Int) by omega), ← h];have : decide (httpL.length ≤ p.length) = false := zf h7;rw [this, Bool.false_and]
def okR (ok : Bool) (m : List UInt8) (t : List UInt8 × List UInt8 × List UInt8 × Bool) (r : Bool × ByteArray × ByteArray × ByteArray × ByteArray) : Prop :=
  r.1 = ok ∧ (ok = true → r = (true, B m, B t.1, B t.2.1, B t.2.2.1))
theorem ref_end (m p q hh : List UInt8) (hp : p.length ≤ 1000000) (hq : q.length ≤ 1000000) : ∃ r, Ev (fun k => (tollgateref09_Path.f k (B p)).bind fun t => if t = true then ((tollgateref09_Query.f k (B q)).bind fun t2 => (some (t2, B m, B p, B q, B hh))) else (some (false, B m, B p, B q, B hh))) r ∧ okR (endS p q hh).2.2.2 m (endS p q hh) r := by
  unfold endS;by_cases h : pathL p = true
  · refine ⟨_, Ev.bind (Path_is p zO) (Ev.pos h (Ev.bind (Query_is q zO) (Ev.ret rfl))), ?_⟩;rw [h, Bool.true_and];exact ⟨rfl, fun ht => by simp only at ht; rw [ht]⟩
  refine ⟨_, Ev.bind (Path_is p zO) (Ev.neg h (Ev.ret rfl)), ?_⟩;rw [Bool.eq_false_iff.2 h, Bool.false_and];exact ⟨rfl, fun ht => by cases ht⟩
theorem ref_j2 (m rest q : List UInt8) (hl : rest.length ≤ 1000000) (hq : q.length ≤ 1000000) (s2 s3 s4 : ByteArray) (at_ : Nat) (ha : at_ ≤ rest.length) (hk : (Lib.indexByte rest 47 = (at_ : Int) ∧ at_ < rest.length) ∨ (Lib.indexByte rest 47 = -1 ∧ at_ = rest.length)) :
    ∃ r, Ev (fun k => tollgateref09_first.j2 k (B rest) (B q) (at_ : Int) (B m) s2 s3 s4 []) r ∧ okR (farS rest q).2.2.2 m (farS rest q) r := by
  have x1 : (B rest).extract 0 ((at_ : Int)).toNat = B (rest.take at_) := by rw [Int.toNat_natCast, B_extract, List.drop_zero, Nat.sub_zero]
  have x2 : (B rest).extract ((at_ : Int)).toNat rest.length = B (rest.drop at_) := by
    rw [Int.toNat_natCast, B_extract, List.take_of_length_le (by simp)]
  have hx := rHost_is (rest.take at_) (by rw [List.length_take]; omega);have hF : farS rest q = (if (hostS (rest.take at_)).2 = true then endS (if at_ = rest.length then [47] else rest.drop at_) q (hostS (rest.take at_)).1 else ([], [], [], false)) := by
    unfold farS;simp only
    rcases hk with ⟨h1, h2⟩ | ⟨h1, h2⟩
    · have hneg : ¬ ((at_ : Int) < 0) := by omega
      rw [h1, zn hneg, zn hneg, Int.toNat_natCast, zn (show ¬ at_ = rest.length by omega)]
    have hpos : (-1 : Int) < 0 := by decide
    rw [h1, zp hpos, zp hpos, zp h2, h2, List.take_length]
  rw [hF];by_cases hb : (hostS (rest.take at_)).2 = true;rotate_left
  · rw [zn hb];refine ⟨(false, B m, s2, s3, s4), ?_, rfl, fun h => by cases h⟩;refine Ev.step (fun k => by simp only [tollgateref09_first.j2]; rfl) ?_;rw [x1, B_size, x2];exact Ev.pos zO (Ev.pos zO (Ev.bind hx (Ev.neg hb (Ev.ret rfl))))
  rw [zp hb];by_cases he : at_ = rest.length
  · rw [zp he];obtain ⟨r, h1, h2⟩ := ref_end m [47] q (hostS (rest.take at_)).1 (by simp) hq;refine ⟨r, ?_, h2⟩;refine Ev.step (fun k => by simp only [tollgateref09_first.j2]; rfl) ?_;rw [x1, B_size, x2];refine Ev.pos zO (Ev.pos zO (Ev.bind hx (Ev.pos hb (Ev.pos ?_ h1))));rw [B_toList, he, List.drop_length]
  rw [zn he];obtain ⟨r, h1, h2⟩ := ref_end m (rest.drop at_) q (hostS (rest.take at_)).1 (by rw [List.length_drop]; omega) hq;refine ⟨r, ?_, h2⟩;refine Ev.step (fun k => by simp only [tollgateref09_first.j2]; rfl) ?_;rw [x1, B_size, x2];refine Ev.pos zO (Ev.pos zO (Ev.bind hx (Ev.pos hb (Ev.neg ?_ h1))));rw [B_toList];intro hn;have := congrArg List.length hn;rw [List.length_drop] at this;simp at this;omega
theorem ref_l0 (m rest q : List UInt8) (hl : rest.length ≤ 1000000) (hq : q.length ≤ 1000000) (s2 s3 s4 : ByteArray) : ∀ (d i : Nat), i + d = rest.length → (47 : UInt8) ∉ rest.take i →
    ∃ r, Ev (fun k => tollgateref09_first.l0 k (B rest) (B q) (i : Int) (B m) s2 s3 s4 []) r ∧ okR (farS rest q).2.2.2 m (farS rest q) r := by
  intro d
  induction d with
  | zero =>
    intro i hi hn;rw [List.take_of_length_le zO] at hn;have hk : Lib.indexByte rest 47 = -1 := by rw [← Lib.index_one]; exact index_no _ 47 [] hn
    obtain ⟨r, h1, h2⟩ := ref_j2 m rest q hl hq s2 s3 s4 i zO (.inr ⟨hk, zO⟩);exact ⟨r, Ev.step (fun k => by simp only [tollgateref09_first.l0]; rfl) (Ev.neg (by rw [B_size]; omega) h1), h2⟩
  | succ d ih =>
    intro i hi hn;have hlt : i < rest.length := by omega
    have hw := wrap_succ i zO;by_cases h47 : rest[i] = 47
    · have hk : Lib.indexByte rest 47 = (i : Int) := by
        have hs : rest = rest.take i ++ 47 :: rest.drop (i + 1) := by
          conv => lhs; rw [← List.take_append_drop i rest, List.drop_eq_getElem_cons hlt, h47]
        rw [← Lib.index_one]
        conv => lhs; rw [hs]
        rw [index_one _ _ 47 hn, List.length_take, Nat.min_eq_left zO]
      obtain ⟨r, h1, h2⟩ := ref_j2 m rest q hl hq s2 s3 s4 i zO (.inl ⟨hk, hlt⟩);refine ⟨r, Ev.step (fun k => by simp only [tollgateref09_first.l0]; rfl) (Ev.pos (by rw [B_size]; omega) (Ev.pos zO ?_)), h2⟩;rw [B_bt rest i hlt];exact Ev.pos (by rw [h47]; rfl) h1
    obtain ⟨r, h1, h2⟩ := ih (i + 1) zO (by
      rw [List.take_succ_eq_append_getElem hlt];intro hm
      rcases List.mem_append.1 hm with h | h
      · exact hn h
      exact h47 (List.mem_singleton.1 h).symm)
    refine ⟨r, Ev.step (fun k => by simp only [tollgateref09_first.l0]; rfl) (Ev.pos (by rw [B_size]; omega) (Ev.pos zO ?_)), h2⟩;rw [B_bt rest i hlt, hw];exact Ev.neg (fun he => h47 (UInt8.toNat_inj.1 (by have : (47 : UInt8).toNat = 47 := rfl; omega))) h1
theorem ref_j0 (m t : List UInt8) (ht : t.length ≤ 1000000) (s1 s2 s3 s4 : ByteArray) (h4 : s4 = B []) : ∃ r, Ev (fun k => tollgateref09_first.j0 k (B m) (B t) false s1 s2 s3 s4 []) r ∧ okR (targetS t).2.2.2 m (targetS t) r := by
  subst h4;have hc := rCut_is 63 t zO;obtain ⟨l1, l2⟩ := cut_le t [63];rw [cut_is] at l1 l2;have hT : targetS t = if Lib.hasPrefix (cutC 63 t).1 httpL = true then farS (Lib.trimPrefix (cutC 63 t).1 httpL) (cutC 63 t).2.1 else endS (cutC 63 t).1 (cutC 63 t).2.1 [] := by
    unfold targetS;rw [cut_is]
  have hbg := begins_is (cutC 63 t).1;rw [hT];generalize (cutC 63 t).1 = p at *;generalize (cutC 63 t).2.1 = q at *;by_cases hx : Lib.hasPrefix p httpL = true;rotate_left
  · rw [zn hx];obtain ⟨r, h1, h2⟩ := ref_end m p q [] zO zO;exact ⟨r, Ev.step (fun k => by simp only [tollgateref09_first.j0]; rfl) (Ev.neg (by simp) (Ev.bind hc (Ev.call hbg (Ev.neg hx h1)))), h2⟩
  rw [zp hx];have h7 : 7 ≤ p.length := Lib.hasPrefix_le hx;have hd : Lib.trimPrefix p httpL = p.drop 7 := by
    unfold Lib.trimPrefix;rw [zp hx];rfl
  have he : (B p).extract 7 p.length = B (p.drop 7) := by
    rw [B_extract, List.take_of_length_le (by simp)]
  rw [hd];obtain ⟨r, h1, h2⟩ := ref_l0 m (p.drop 7) q (by rw [List.length_drop]; omega) zO s2 s3 (B []) (p.drop 7).length 0 zO (by simp);refine ⟨r, Ev.step (fun k => by simp only [tollgateref09_first.j0]; rfl) (Ev.neg (by simp) (Ev.bind hc (Ev.call hbg (Ev.pos hx ?_)))), h2⟩
  show Ev (fun k => if (7 : Int) ≤ ((B p).size : Int) then _ else _) r
  rw [B_size, he];exact Ev.pos zO h1
theorem cut_none (c : UInt8) (l : List UInt8) (h : (cutC c l).2.2 = false) : (cutC c l).2.1 = [] := by
  rcases at_first c l with h1 | ⟨a, b, rfl, ha⟩
  · rw [cutC_no c l h1]
  rw [cutC_one c b a ha] at h;cases h
theorem ref_first_core (ln m rest t ver : List UInt8) (ok1 ok2 : Bool) (c1 : Ev (fun k => tollgateref09_cut.f k (B ln) (((32 : UInt8).toNat : Nat) : Int)) (B m, B rest, ok1)) (c2 : Ev (fun k => tollgateref09_cut.f k (B rest) (((32 : UInt8).toNat : Nat) : Int)) (B t, B ver, ok2))
    (n1 : ok1 = false → rest = []) (n2 : ok2 = false → ver = []) (n3 : rest = [] → ver = []) (hml : m.length ≤ 1000000) (htl : t.length ≤ 1000000) : ∃ r, Ev (fun k => ref_first.f k (B ln)) r ∧
    okR (decide ((targetS t).2.2.2 = true ∧ tokOk m = true ∧ ver = verL)) m (targetS t) r := by
  have hbad : ∀ s1 s2 s3 s4 : ByteArray, Ev (fun k => tollgateref09_first.j0 k (B m) (B t) true s1 s2 s3 s4 []) (false, s1, s2, s3, s4) := fun s1 s2 s3 s4 => Ev.step (fun k => by simp only [tollgateref09_first.j0]; rfl) (Ev.pos (by trivial) (Ev.ret rfl))
  have hno : ver ≠ verL ∨ ¬ tokOk m = true → ∀ s1 s2 s3 s4 : ByteArray, okR (decide ((targetS t).2.2.2 = true ∧ tokOk m = true ∧ ver = verL)) m (targetS t) (false, s1, s2, s3, s4) := by
    intro h s1 s2 s3 s4;rw [zf (fun hh => h.elim (fun h => h hh.2.2) (fun h => h hh.2.1))];exact ⟨rfl, fun h => by cases h⟩
  have hv0 : ver = [] → ver ≠ verL := by rintro rfl; decide
  show ∃ r, Ev (fun k => tollgateref09_first.f k (B ln) (B []) (B []) (B []) (B []) []) r ∧ _
  unfold tollgateref09_first.f;cases ok1 with
  | false =>
    refine ⟨_, Ev.bind c1 (Ev.bind c2 (Ev.neg (by simp) (hbad _ _ _ _))), hno (.inl (hv0 (n3 (n1 rfl)))) _ _ _ _⟩
  | true =>
    cases ok2 with
    | false => exact ⟨_, Ev.bind c1 (Ev.bind c2 (Ev.pos rfl (Ev.neg (by simp) (hbad _ _ _ _)))), hno (.inl (hv0 (n2 rfl))) _ _ _ _⟩
    | true =>
      by_cases hm : tokOk m = true;rotate_left
      · exact ⟨_, Ev.bind c1 (Ev.bind c2 (Ev.pos rfl (Ev.pos rfl (Ev.bind (Token_is m zO) (Ev.neg hm (hbad _ _ _ _)))))), hno (.inr hm) _ _ _ _⟩
      by_cases hv : ver = verL
      · obtain ⟨r, h1, h2⟩ := ref_j0 m t zO (B []) (B []) (B []) (B []) rfl;refine ⟨r, Ev.bind c1 (Ev.bind c2 (Ev.pos rfl (Ev.pos rfl (Ev.bind (Token_is m zO) (Ev.pos hm ?_))))), ?_⟩
        · show Ev (fun k => tollgateref09_first.j0 k (B m) (B t) ((B ver).toList != ([72, 84, 84, 80, 47, 49, 46, 49] : List UInt8)) (B []) (B []) (B []) (B []) []) r
          rw [B_toList, show (ver != ([72, 84, 84, 80, 47, 49, 46, 49] : List UInt8)) = false by rw [hv]; decide];exact h1
        have : decide ((targetS t).2.2.2 = true ∧ tokOk m = true ∧ ver = verL) = (targetS t).2.2.2 := by
          rw [Bool.eq_iff_iff, decide_eq_true_eq];exact ⟨fun h => h.1, fun h => ⟨h, hm, hv⟩⟩
        rw [this];exact h2
      refine ⟨_, Ev.bind c1 (Ev.bind c2 (Ev.pos rfl (Ev.pos rfl (Ev.bind (Token_is m zO) (Ev.pos hm ?_))))), hno (.inl hv) (B []) (B []) (B []) (B [])⟩
      show Ev (fun k => tollgateref09_first.j0 k (B m) (B t) ((B ver).toList != ([72, 84, 84, 80, 47, 49, 46, 49] : List UInt8)) (B []) (B []) (B []) (B []) []) _
      rw [B_toList, show (ver != ([72, 84, 84, 80, 47, 49, 46, 49] : List UInt8)) = true by simpa [verL] using hv];exact hbad _ _ _ _
theorem ref_first_is (ln : List UInt8) (hl : ln.length ≤ 1000000) : ∃ r, Ev (fun k => ref_first.f k (B ln)) r ∧
    okR (decide ((targetS (Lib.cut (Lib.cut ln [32]).2.1 [32]).1).2.2.2 = true ∧ tokOk (Lib.cut ln [32]).1 = true ∧ (Lib.cut (Lib.cut ln [32]).2.1 [32]).2.1 = verL)) (Lib.cut ln [32]).1 (targetS (Lib.cut (Lib.cut ln [32]).2.1 [32]).1) r := by
  obtain ⟨a1, a2⟩ := cut_le ln [32];obtain ⟨b1, b2⟩ := cut_le (Lib.cut ln [32]).2.1 [32];have c1 := rCut_is 32 ln zO;have n1 := cut_none 32 ln;rw [← cut_is] at c1 n1;have c2 := rCut_is 32 (Lib.cut ln [32]).2.1 zO;have n2 := cut_none 32 (Lib.cut ln [32]).2.1;have n3 : (Lib.cut ln [32]).2.1 = [] → (cutC 32 (Lib.cut ln [32]).2.1).2.1 = [] := by intro h; rw [h]; rfl
  rw [← cut_is] at c2 n2 n3;exact ref_first_core ln _ _ _ _ _ _ c1 c2 n1 n2 n3 zO zO
theorem loopS_two (E : Int) (m p q hh : ByteArray) : ∀ (ls : List (List UInt8)) (n : Nat) (ho : List UInt8) (acc : List Fd), 2 ≤ n → loopS E m p q hh ls n ho acc = errR 4
  | [], n, ho, acc, hn => by
    show fin E m p q hh n (B ho) (acc.map sF) = _
    unfold fin;rw [zn zO]
  | ln :: ls, n, ho, acc, hn => by
    rw [loopS];cases lineS ln with
    | none => rfl
    | some f =>
      simp only
      split
      · split
        · exact loopS_two E m p q hh ls (n + 1) _ _ zO
        rfl
      exact loopS_two E m p q hh ls n _ _ hn
def cur (hh ho : List UInt8) (n : Nat) : ByteArray := if n = 0 then B hh else if hh = [] then B ho else B hh
set_option maxHeartbeats 4000000 in
theorem ref_loop (E : Int) (hE : 0 ≤ E ∧ E ≤ 100000) (m p q hh : List UInt8) (lines : List ByteArray) (hll : lines.length ≤ 100000) :
    ∀ (ls : List (List UInt8)) (pre : List ByteArray) (n : Nat) (ho : List UInt8) (acc : List Fd),
      lines = pre ++ ls.map B → (∀ l ∈ ls, l.length ≤ 1000000000) → n ≤ 1 → acc.length ≤ pre.length →
      Ev (fun k => tollgateref09_Parse.l1 k E lines (n : Int) (pre.length : Int) (B m) (B p) (B q) (cur hh ho n) (acc.map sF)) (loopS E (B m) (B p) (B q) (B hh) ls n ho acc) := by
  intro ls
  induction ls with
  | nil =>
    intro pre n ho acc hl _ hn ha;have hw : wrap64 (E + 4) = E + 4 := by unfold wrap64; omega
    rw [List.map_nil, List.append_nil] at hl;subst hl;have hal : (acc.map sF).length = acc.length := List.length_map ..;refine Ev.step (fun k => by simp only [tollgateref09_Parse.l1]; rfl) (Ev.neg zO ?_);rw [hw];clear hw
    show Ev _ (fin E (B m) (B p) (B q) (B hh) n (B ho) (acc.map sF))
    unfold fin;by_cases h1 : n = 1
    · rw [zp h1];refine Ev.pos zO ?_;by_cases h2 : 32 < (acc.map sF).length
      · rw [zp h2];exact Ev.pos zO (Ev.ret rfl)
      rw [zn h2];refine Ev.neg zO (Ev.ret ?_);unfold cur;rw [zn zO, B_toList]
    rw [zn h1];exact Ev.neg zO (Ev.ret rfl)
  | cons ln ls ih =>
    intro pre n ho acc hl hg hn ha;have g1 := hg ln (by simp);have hlen : pre.length + (ls.length + 1) = lines.length := by rw [hl]; simp
    have hrd : rdOf ByteArray.empty lines (pre.length : Int) = B ln := by
      rw [hl];simp [rdOf]
    have c1 := rCut_is 58 ln zO;rw [← cut_is] at c1;obtain ⟨le1, le2⟩ := cut_le ln [58];have t1 := trimmed_is (Lib.cut ln [58]).2.1 zO;have htl := trim_le (Lib.cut ln [58]).2.1 [9, 32];have tk := Token_is (Lib.cut ln [58]).1 zO;have vl := Value_is (Lib.trimS (Lib.cut ln [58]).2.1 [9, 32]) zO;have lo := rLower_is (Lib.cut ln [58]).1 zO;have hx := rHost_is (Lib.trimS (Lib.cut ln [58]).2.1 [9, 32]) zO;have hw1 : wrap64 ((pre.length : Int) + 1) = ((pre ++ [B ln]).length : Int) := by
      rw [List.length_append];unfold wrap64;simp;omega
    have hw2 : wrap64 ((n : Int) + 1) = ((n + 1 : Nat) : Int) := by unfold wrap64; omega
    have hl' : lines = (pre ++ [B ln]) ++ ls.map B := by rw [hl]; simp
    have hg' : ∀ x ∈ ls, x.length ≤ 1000000000 := fun x hx => hg x (by simp [hx])
    have hp : (pre ++ [B ln]).length = pre.length + 1 := by simp
    rw [loopS];generalize hc1 : (Lib.cut ln [58]).1 = nm at *;generalize hc2 : (Lib.cut ln [58]).2.1 = v0 at *;generalize hc3 : (Lib.cut ln [58]).2.2 = is at *;generalize hv : Lib.trimS v0 [9, 32] = v at *;have hline : lineS ln = if is = true ∧ tokOk nm = true ∧ valOk v = true then some (nm.map lowB, v) else none := by
      unfold lineS;rw [hc1, hc2, hc3, hv]
    rw [hline];have hac2 : (acc ++ [(nm.map lowB, v)]).length ≤ (pre ++ [B ln]).length := by rw [hp, List.length_append]; exact Nat.succ_le_succ ha
    have hacl : (acc.map sF).length = acc.length := List.length_map ..;have hbad : Ev (fun k => tollgateref09_Parse.j4 k E lines (n : Int) (pre.length : Int) (B nm) (B v) true (B m) (B p) (B q) (cur hh ho n) (acc.map sF)) (errR 4) := Ev.step (fun k => by simp only [tollgateref09_Parse.j4]; rfl) (Ev.pos (by trivial) (Ev.ret rfl));refine Ev.step (fun k => by simp only [tollgateref09_Parse.l1]; rfl) ?_;refine Ev.pos zO (Ev.pos zO ?_);rw [hrd];refine Ev.bind c1 (Ev.bind t1 ?_);cases is with
    | false =>
      rw [zn (by simp)];exact Ev.neg (by simp) hbad
    | true =>
      refine Ev.pos rfl (Ev.bind tk ?_);cases htk : tokOk nm with
      | false =>
        rw [zn (by simp)];exact Ev.neg (by simp) hbad
      | true =>
        refine Ev.pos rfl (Ev.bind vl ?_);cases hvl : valOk v with
        | false =>
          rw [zn (by simp)];exact hbad
        | true =>
          rw [zp ⟨rfl, rfl, rfl⟩]
          show Ev _ (if nm.map lowB = hostL then (if (hostS v).2 = true then loopS E (B m) (B p) (B q) (B hh) ls (n + 1) (hostS v).1 (acc ++ [(nm.map lowB, v)]) else errR 4) else loopS E (B m) (B p) (B q) (B hh) ls n ho (acc ++ [(nm.map lowB, v)]))
          refine Ev.step (fun k => by simp only [tollgateref09_Parse.j4]; rfl) ?_;refine Ev.neg (by decide) (Ev.bind lo (Ev.pos zO (Ev.put ?_)));have hsnoc : acc.map sF ++ [⟨B (nm.map lowB), B v⟩] = (acc ++ [(nm.map lowB, v)]).map sF := by simp [sF]
          rw [hsnoc];have hbad5 : ∀ (x : Int) (y : ByteArray), Ev (fun k => tollgateref09_Parse.j5 k E lines x (pre.length : Int) y true (B m) (B p) (B q) (cur hh ho n) ((acc ++ [(nm.map lowB, v)]).map sF)) (errR 4) := fun x y => Ev.step (fun k => by simp only [tollgateref09_Parse.j5]; rfl) (Ev.pos (by trivial) (Ev.ret rfl))
          by_cases hq : nm.map lowB = hostL;rotate_left
          · rw [zn hq];refine Ev.neg (by rw [B_toList]; exact hq) ?_;have hI := ih (pre ++ [B ln]) n ho (acc ++ [(nm.map lowB, v)]) hl' hg' hn hac2;rw [hw1];exact hI
          rw [zp hq];refine Ev.pos (by rw [B_toList]; exact hq) (Ev.bind hx ?_);cases hb : (hostS v).2 with
          | false =>
            rw [zn (by simp)];exact Ev.neg (by show ¬ (hostR v).2 = true; unfold hostR; simp [hb]) (hbad5 _ _)
          | true =>
            rw [zp rfl];refine Ev.pos (by show (hostR v).2 = true; exact hb) ?_;rw [hw2];by_cases hn0 : n = 0;rotate_left
            · rw [loopS_two _ _ _ _ _ _ _ _ _ zO, show decide (((n + 1 : Nat) : Int) > 1) = true from zt zO];exact hbad5 _ _
            subst hn0;have hI := ih (pre ++ [B ln]) 1 (hostS v).1 (acc ++ [(nm.map lowB, v)]) hl' hg' zO hac2;rw [show decide (((0 + 1 : Nat) : Int) > 1) = false from by decide];refine Ev.step (fun k => by simp only [tollgateref09_Parse.j5]; rfl) (Ev.neg (by simp) ?_);rw [hw1]
            show Ev (fun k => if (cur hh ho 0).toList = [] then tollgateref09_Parse.l1 k E lines ((0 + 1 : Nat) : Int) ((pre ++ [B ln]).length : Int) (B m) (B p) (B q) (hostR v).1 ((acc ++ [(nm.map lowB, v)]).map sF) else tollgateref09_Parse.l1 k E lines ((0 + 1 : Nat) : Int) ((pre ++ [B ln]).length : Int) (B m) (B p) (B q) (cur hh ho 0) ((acc ++ [(nm.map lowB, v)]).map sF)) _
            have hc0 : cur hh ho 0 = B hh := rfl;rw [hc0, B_toList];by_cases he : hh = []
            · have hc : cur hh (hostS v).1 1 = (hostR v).1 := by unfold cur; rw [zn zO, zp he]; rfl
              rw [hc] at hI;exact Ev.pos he hI
            have hc : cur hh (hostS v).1 1 = B hh := by unfold cur; rw [zn zO, zn he]
            rw [hc] at hI;exact Ev.neg he hI
theorem ref_tail (b : List UInt8) (i : Int) : Ev (fun k => tollgateref09_Parse.j1 k (bytesOf (B b)) (Lib.index (b.take 2048) [13, 10, 13, 10]) i false) (parseS b) := by
  have hroom := Lib.index_room (b.take 2048) [13, 10, 13, 10];rw [List.length_take] at hroom;have hbl : (bytesOf (B b)).length = b.length := N8_len b;unfold parseS;generalize Lib.index (b.take 2048) [13, 10, 13, 10] = e at *;refine Ev.step (fun k => by simp only [tollgateref09_Parse.j1]; rfl) (Ev.neg (by simp) ?_);rw [hbl];by_cases he : e < 0
  · rw [zp he];refine Ev.pos he (Ev.step (fun k => by simp only [tollgateref09_Parse.j2]; rfl) ?_);by_cases h2 : b.length < 2048
    · rw [zp h2];exact Ev.pos (zt zO) (Ev.ret rfl)
    rw [zn h2];exact Ev.neg (by simp; omega) (Ev.pos he (Ev.ret rfl))
  rw [zn he];have hr := hroom zO;simp only [List.length_cons, List.length_nil] at hr;have hs : strOfNums ((bytesOf (B b)).take (e : Int).toNat) = B (b.take e.toNat) := by rw [N8_B, ← List.map_take, strOf_N8]
  refine Ev.neg he (Ev.step (fun k => by simp only [tollgateref09_Parse.j2]; rfl) (Ev.neg (by simp) (Ev.neg he (Ev.pos zO ?_))));rw [hbl, hs];have htl : (b.take e.toNat).length ≤ 2048 := by rw [List.length_take]; omega
  refine Ev.pos zO (Ev.bind (lines_is _ zO) ?_);generalize b.take e.toNat = s at *;obtain ⟨n1, n2⟩ := split_len s [13, 10];have hne := split_ne s [13, 10];generalize Lib.split s [13, 10] = ls at *;cases ls with
  | nil => exact absurd rfl hne
  | cons ln ls =>
    have hlen : (((ln :: ls).map B).length : Int) = ls.length + 1 := by simp
    have hrd : rdOf ByteArray.empty ((ln :: ls).map B) 0 = B ln := by simp [rdOf]
    have hln := n2 ln (by simp);have hls : ls.length ≤ 2050 := by simp at n1; omega
    obtain ⟨r, h1, h2⟩ := ref_first_is ln zO;refine Ev.pos (by rw [hlen]; omega) ?_;rw [hrd];refine Ev.bind h1 ?_;unfold headS;rw [show (ln :: ls).headD [] = ln from rfl, show (ln :: ls).tail = ls from rfl];simp only;by_cases hok : (targetS (Lib.cut (Lib.cut ln [32]).2.1 [32]).1).2.2.2 = true ∧ tokOk (Lib.cut ln [32]).1 = true ∧ (Lib.cut (Lib.cut ln [32]).2.1 [32]).2.1 = verL
    · rw [zp hok];obtain ⟨_, hr2⟩ := h2;have hr3 := hr2 (zt hok);subst hr3;refine Ev.pos rfl ?_;exact ref_loop e ⟨zO, zO⟩ _ _ _ _ ((ln :: ls).map B) (by simp; omega) ls [B ln] 0 [] [] (by simp) (fun l hl => by have := n2 l (by simp [hl]); omega) zO (by simp)
    rw [zn hok];obtain ⟨hr1, _⟩ := h2;rw [zf hok] at hr1;exact Ev.neg (by rw [hr1]; simp) (Ev.ret rfl)
theorem rd_N8 (b : List UInt8) (i : Nat) (hi : i < b.length) : rd (bytesOf (B b)) (i : Int) = ((b[i]).toNat : Int) := by
  rw [N8_B];simp [rd, hi]
theorem occ4 (b : List UInt8) (i : Nat) (h1 : i + 4 ≤ b.length) (h2 : i + 4 ≤ 2048) : Lib.occAt (b.take 2048) [13, 10, 13, 10] i = decide (b[i] = 13 ∧ b[i + 1] = 10 ∧ b[i + 2] = 13 ∧ b[i + 3] = 10) := by
  have hd : (b.take 2048).drop i = b[i] :: b[i + 1] :: b[i + 2] :: b[i + 3] :: ((b.take 2048).drop (i + 4)) := by
    have hl : (b.take 2048).length = min 2048 b.length := List.length_take;rw [List.drop_eq_getElem_cons (show i < (b.take 2048).length by omega), List.drop_eq_getElem_cons (show i + 1 < (b.take 2048).length by omega), List.drop_eq_getElem_cons (show i + 2 < (b.take 2048).length by omega), List.drop_eq_getElem_cons (show i + 3 < (b.take 2048).length by omega)];simp only [List.getElem_take]
  unfold Lib.occAt;rw [hd, Bool.eq_iff_iff, decide_eq_true_eq];simp only [List.isPrefixOf, Bool.and_eq_true, beq_iff_eq, Bool.and_true]
  constructor
  · rintro ⟨a, b', c, d⟩;exact ⟨a.symm, b'.symm, c.symm, d.symm⟩
  rintro ⟨a, b', c, d⟩;exact ⟨a.symm, b'.symm, c.symm, d.symm⟩
theorem scan (b : List UInt8) (hb : b.length ≤ 1000000000000000) : ∀ (d i : Nat), 2048 - i ≤ d → i ≤ 2048 → (∀ j, j < i → Lib.occAt (b.take 2048) [13, 10, 13, 10] j = false) → Ev (fun k => tollgateref09_Parse.l0 k (bytesOf (B b)) (-1) (i : Int)) (parseS b) := by
  have hnone : ∀ i : Nat, (¬ (i + 4 ≤ b.length ∧ i + 4 ≤ 2048)) → (∀ j, j < i → Lib.occAt (b.take 2048) [13, 10, 13, 10] j = false) → Lib.index (b.take 2048) [13, 10, 13, 10] = -1 := by
    intro i hi hno;refine Lib.index_none (fun j hj => ?_)
    rcases Nat.lt_or_ge j i with h | h
    · exact hno j h
    cases ho : Lib.occAt (b.take 2048) [13, 10, 13, 10] j with
    | false => rfl
    | true =>
      exfalso
      rcases Lib.occAt_room ho with h1 | h1
      · rw [List.length_take] at h1;simp at h1;omega
      cases h1
  intro d
  induction d with
  | zero =>
    intro i hd hi hno;have he := hnone i zO hno;have ht := ref_tail b (i : Int);rw [he] at ht;have hw : wrap64 ((i : Int) + 4) = ((i + 4 : Nat) : Int) := by unfold wrap64; omega
    refine Ev.step (fun k => by simp only [tollgateref09_Parse.l0]; rfl) ?_;rw [hw, N8_len];clear hw;by_cases h1 : i + 4 ≤ b.length
    · exact Ev.pos zO (Ev.neg zO ht)
    exact Ev.neg zO ht
  | succ d ih =>
    intro i hd hi hno;have hl4 : i + 4 ≤ b.length → i < b.length ∧ i + 1 < b.length ∧ i + 2 < b.length ∧ i + 3 < b.length := fun _ => by omega
    have hw : wrap64 ((i : Int) + 4) = ((i + 4 : Nat) : Int) := by unfold wrap64; omega
    have hw1 := wrap_succ i zO;have hw2 : wrap64 ((i : Int) + 2) = ((i + 2 : Nat) : Int) := by unfold wrap64; omega
    have hw3 : wrap64 ((i : Int) + 3) = ((i + 3 : Nat) : Int) := by unfold wrap64; omega
    refine Ev.step (fun k => by simp only [tollgateref09_Parse.l0]; rfl) ?_;rw [hw, N8_len];clear hw;by_cases hA : i + 4 ≤ b.length ∧ i + 4 ≤ 2048;rotate_left
    · have he := hnone i hA hno;have ht := ref_tail b (i : Int);rw [he] at ht;by_cases h1 : i + 4 ≤ b.length
      · exact Ev.pos zO (Ev.neg zO ht)
      exact Ev.neg zO ht
    obtain ⟨h1, h2⟩ := hA;have ho := occ4 b i h1 h2;refine Ev.pos zO (Ev.pos zO ?_);rw [show decide ((-1 : Int) < 0) = true from rfl];have hnext : Lib.occAt (b.take 2048) [13, 10, 13, 10] i = false → Ev (fun k => tollgateref09_Parse.l0 k (bytesOf (B b)) (-1) ((i + 1 : Nat) : Int)) (parseS b) := by
      intro hf;refine ih (i + 1) zO zO (fun j hj => ?_)
      rcases Nat.lt_or_ge j i with h | h
      · exact hno j h
      have : j = i := by omega
      rw [this];exact hf
    refine Ev.step (fun k => by simp only [tollgateref09_Parse.j1]; rfl) ?_;rw [hw1, hw2, hw3, N8_len, rd_N8 b i (hl4 h1).1, rd_N8 b (i + 1) (hl4 h1).2.1, rd_N8 b (i + 2) (hl4 h1).2.2.1, rd_N8 b (i + 3) (hl4 h1).2.2.2];clear hw1 hw2 hw3;refine Ev.pos (by trivial) (Ev.pos zO (Ev.pos zO ?_));have ne : ∀ (x : UInt8) (c : UInt8), x ≠ c → ¬ ((x.toNat : Int) = (c.toNat : Int)) := fun x c h he => h (UInt8.toNat_inj.1 zO)
    by_cases g1 : b[i] = 13;rotate_left
    · exact Ev.neg (ne _ 13 g1) (hnext (by rw [ho]; exact zf (fun h => g1 h.1)))
    refine Ev.pos (by rw [g1]; rfl) (Ev.pos zO (Ev.pos zO ?_));by_cases g2 : b[i + 1] = 10;rotate_left
    · exact Ev.neg (ne _ 10 g2) (hnext (by rw [ho]; exact zf (fun h => g2 h.2.1)))
    refine Ev.pos (by rw [g2]; rfl) (Ev.pos zO (Ev.pos zO ?_));by_cases g3 : b[i + 2] = 13;rotate_left
    · exact Ev.neg (ne _ 13 g3) (hnext (by rw [ho]; exact zf (fun h => g3 h.2.2.1)))
    refine Ev.pos (by rw [g3]; rfl) (Ev.pos zO (Ev.pos zO ?_));by_cases g4 : b[i + 3] = 10;rotate_left
    · exact Ev.neg (ne _ 10 g4) (hnext (by rw [ho]; exact zf (fun h => g4 h.2.2.2)))
    refine Ev.pos (by rw [g4]; rfl) ?_;rw [zt ⟨g1, g2, g3, g4⟩] at ho;have he : Lib.index (b.take 2048) [13, 10, 13, 10] = (i : Int) := Lib.index_first (by rw [List.length_take]; omega) ho hno;have ht := ref_tail b ((i + 1 : Nat) : Int);rw [he] at ht;have hw : wrap64 (((i + 1 : Nat) : Int) + 4) = ((i + 5 : Nat) : Int) := by unfold wrap64; omega
    refine Ev.step (fun k => by simp only [tollgateref09_Parse.l0]; rfl) ?_;rw [hw, N8_len, show decide ((i : Int) < 0) = false from zf zO];clear hw;by_cases h5 : i + 5 ≤ b.length
    · by_cases h6 : i + 5 ≤ 2048
      · exact Ev.pos zO (Ev.pos zO ht)
      exact Ev.pos zO (Ev.neg zO ht)
    exact Ev.neg zO ht
theorem refParse_is (b : List UInt8) (hb : b.length ≤ 1000000000000000) : Ev (fun k => tollgateref09_Parse.f k (bytesOf (B b))) (parseS b) := scan b hb 2048 0 zO zO (fun j hj => by omega)
end Go.Proofs.YtahaihnlkohhgaaGreatDoor.HP
end
section
namespace Go.Proofs.YtahaihnlkohhgaaGreatDoor.PP
open Go.RowKit Go.Proofs.YtahaihnlkohhgaaGreatDoor.S Go.Proofs.YtahaihnlkohhgaaGreatDoorW.PrintWords Go.Proofs.YtahaihnlkohhgaaGreatDoorW.PrintLast Go.Proofs.YtahaihnlkohhgaaGreatDoorW.PrintMore
theorem Ev.pos {α : Type} {c : Prop} [Decidable c] {a b : Nat → Option α} {r : α} (hc : c) (h : Ev a r) : Ev (fun k => if c then a k else b k) r := Ev.congr (fun _ => zp hc) h
theorem Ev.neg {α : Type} {c : Prop} [Decidable c] {a b : Nat → Option α} {r : α} (hc : ¬ c) (h : Ev b r) : Ev (fun k => if c then a k else b k) r := Ev.congr (fun _ => zn hc) h
theorem Ev.put {α β : Type} {x : β} {f : Nat → β → Option α} {r : α} (h : Ev (fun k => f k x) r) : Ev (fun k => (some x).bind (f k)) r := h
theorem Ev.call {α β : Type} {g : Option β} {x : β} {f : Nat → β → Option α} {r : α} (hg : g = some x) (h : Ev (fun k => f k x) r) : Ev (fun k => g.bind (f k)) r := by rw [hg]; exact h
theorem Ev.ret {α : Type} {a r : α} (h : a = r) : Ev (fun _ => some a) r := by rw [h]; exact Ev.now _
theorem live_is : Ev (fun k => tollgatelaw10_live.f k) true :=
  Ev.of (k := 12) (fun k => tollgatelaw10_live.mono k) (by decide +kernel)

theorem toList_nil (s : ByteArray) : s.toList = [] ↔ s.size = 0 := by
  rw [ByteArray.toList_eq, ← List.length_eq_zero_iff, Array.length_toList];rfl
theorem bt_extract (s : ByteArray) (a : Nat) : bt (s.extract a s.size) 0 = bt s (a : Int) := by
  unfold bt;simp only [Int.toNat_natCast, show (0 : Int).toNat = 0 from rfl];by_cases h : a < s.size
  · rw [dif_pos (by rw [ByteArray.size_extract]; omega), dif_pos h];simp [ByteArray.getElem_extract]
  rw [dif_neg (by rw [ByteArray.size_extract]; omega), dif_neg h]
theorem last_is (p : ByteArray) (h : 1 ≤ p.size) (c : UInt8) : ((p.extract (p.size - 1) p.size).toList == [c]) = (bt p ((p.size - 1 : Nat) : Int) == (c.toNat : Int)) := by
  have e : (p.extract (p.size - 1) p.size).toList = [p[p.size - 1]'zO] := by
    rw [ByteArray.toList_eq];apply List.ext_getElem?;intro i;rw [ByteArray.data_extract, Array.getElem?_toList];by_cases hi : i = 0
    · subst hi;rw [Array.getElem?_eq_getElem (by simp; have : p.size = p.data.size := rfl; omega)];simp;rfl
    rw [Array.getElem?_eq_none (by simp; have : p.size = p.data.size := rfl; omega), List.getElem?_eq_none (by simp; omega)]
  have e2 : bt p ((p.size - 1 : Nat) : Int) = ((p[p.size - 1]'zO).toNat : Int) := by
    unfold bt;rw [dif_pos (by simp only [Int.toNat_natCast]; omega)];simp
  rw [e, e2, Bool.eq_iff_iff];simp only [beq_iff_eq, List.cons.injEq, and_true]
  constructor
  · intro h; rw [h]
  intro h; exact UInt8.toNat_inj.1 zO
def fitsB (p s : ByteArray) : Bool := if p.size ≤ s.size then (if (s.extract 0 p.size).toList = p.toList then (decide (s.size = p.size) || (bt s (p.size : Int) == 47 || (decide (1 ≤ p.size) && bt p ((p.size - 1 : Nat) : Int) == 47))) else false) else false
theorem ext_list (s : ByteArray) (i j : Nat) : (s.extract i j).toList = (s.data.toList.drop i).take (j - i) := by
  have h : s = HP.B s.data.toList := (HP.B_of s).symm;rw [show s.extract i j = (HP.B s.data.toList).extract i j from by rw [← h], HP.B_extract, HP.B_toList]
theorem cutP_is (p s : ByteArray) : strings_CutPrefix.f s p = some (if p.size ≤ s.size ∧ (s.extract 0 p.size).toList = p.toList then (s.extract p.size s.size, true) else (s, false)) := by
  have hs : s.data.toList.length = s.size := by simp
  have hp : p.data.toList.length = p.size := by simp
  have hx : Lib.hasPrefix s.data.toList p.data.toList = true ↔ (p.size ≤ s.size ∧ (s.extract 0 p.size).toList = p.toList) := by
    unfold Lib.hasPrefix;rw [List.isPrefixOf_iff_prefix, List.prefix_iff_eq_take, ext_list, Lib.toList_data, hp];simp only [List.drop_zero, Nat.sub_zero]
    constructor
    · intro h;refine ⟨?_, h.symm⟩;have := congrArg List.length h;rw [List.length_take, hs, hp] at this;omega
    intro h;exact h.2.symm
  unfold strings_CutPrefix.f;by_cases h : p.size ≤ s.size ∧ (s.extract 0 p.size).toList = p.toList
  · rw [zp h, hx.2 h];unfold Lib.trimPrefix;rw [zp (hx.2 h)];have he : s.extract p.size s.size = HP.B (s.data.toList.drop p.data.toList.length) := by
      have h0 : s = HP.B s.data.toList := (HP.B_of s).symm;rw [show s.extract p.size s.size = (HP.B s.data.toList).extract p.size s.size from by rw [← h0], HP.B_extract, hp, List.take_of_length_le (by rw [List.length_drop, hs]; omega)]
    rw [he];rfl
  have hf : Lib.hasPrefix s.data.toList p.data.toList = false := by
    cases hb : Lib.hasPrefix s.data.toList p.data.toList
    · rfl
    exact absurd (hx.1 hb) h
  rw [zn h, hf];unfold Lib.trimPrefix;rw [hf];simp
theorem fits_is (p s : ByteArray) (hs : s.size ≤ 4611686018427387904) : plane_fits.f p s = some (fitsB p s) := by
  unfold plane_fits.f fitsB;rw [cutP_is];by_cases h1 : p.size ≤ s.size;rotate_left
  · have e : (if p.size ≤ s.size ∧ (s.extract 0 p.size).toList = p.toList then (s.extract p.size s.size, true) else (s, false)) = (s, false) := zn (fun h => h1 h.1);rw [e, zn h1];simp
  rw [zp h1];by_cases h2 : (s.extract 0 p.size).toList = p.toList;rotate_left
  · have e : (if p.size ≤ s.size ∧ (s.extract 0 p.size).toList = p.toList then (s.extract p.size s.size, true) else (s, false)) = (s, false) := zn (fun h => h2 h.2);rw [e, zn h2];simp
  have e : (if p.size ≤ s.size ∧ (s.extract 0 p.size).toList = p.toList then (s.extract p.size s.size, true) else (s, false)) = (s.extract p.size s.size, true) := zp ⟨h1, h2⟩;rw [e, zp h2];simp only [Option.bind_some, if_true];have hsz : (s.extract p.size s.size).size = s.size - p.size := by rw [ByteArray.size_extract]; omega
  by_cases h3 : s.size = p.size
  · rw [zp ((toList_nil _).2 zO)];simp [h3]
  rw [zn (fun h => h3 (by have := (toList_nil _).1 h; omega))];unfold strings_HasSuffix.f stringslite_HasSuffix.f;have hsl : (⟨#[47]⟩ : ByteArray).size = 1 := rfl;have hw : wrap64 ((p.size : Int) - ((⟨#[47]⟩ : ByteArray).size : Int)) = (p.size : Int) - 1 := by rw [hsl]; unfold wrap64; omega
  by_cases h4 : 1 ≤ p.size
  · rw [zp (by rw [hsl]; omega), hw, zp zO, zp zO];have ht : ((p.size : Int) - 1).toNat = p.size - 1 := by omega
    rw [ht];simp only [Option.bind_some];have hl := last_is p h4 47;rw [show (⟨#[47]⟩ : ByteArray).toList = [47] from by rw [ByteArray.toList_eq], hl, bt_extract];rw [zp (show 0 < ((s.extract p.size s.size).size : Int) by omega)];simp only [h3, h4, decide_false, decide_true, Bool.false_or, Bool.true_and];rw [show ((47 : UInt8).toNat : Int) = 47 from rfl];cases bt p ((p.size - 1 : Nat) : Int) == 47 <;> simp
  rw [zn (by rw [hsl]; omega)];simp only [Option.bind_some, Bool.false_eq_true, if_false];rw [zp (show 0 < ((s.extract p.size s.size).size : Int) by omega), bt_extract];simp [h3, h4]
abbrev Found := ByteArray × ByteArray × ByteArray × Bool
def nofound : Found := (⟨#[]⟩, ⟨#[]⟩, ⟨#[]⟩, false)
def may (h s : ByteArray) (r : S64) : Bool := r.f0.toList == h.toList && fitsB r.f1 s
def findStep (h s : ByteArray) (a : Found) (r : S64) : Found := if may h s r = true then (if a.2.2.2 = true then (if (r.f1.size : Int) > (a.2.1.size : Int) then (r.f0, r.f1, r.f2, true) else a) else (r.f0, r.f1, r.f2, true)) else a
def findF (h s : ByteArray) (l : List S64) : Found := l.foldl (findStep h s) nofound
theorem rd_drop {l : List S64} {i : Nat} (h : i < l.length) : l.drop i = rd_T64 l (i : Int) :: l.drop (i + 1) := by
  rw [List.drop_eq_getElem_cons h];simp [rd_T64, List.getD_eq_getElem?_getD, zr h]
theorem Find_loop (h s : ByteArray) (hs : s.size ≤ 4611686018427387904) (l : List S64) (hl : l.length ≤ 9223372036854775806) : ∀ (d i : Nat), i + d = l.length → ∀ a : Found,
    Ev (fun k => plane_Find.l0 k h s a.2.2.2 l (l.length : Int) (i : Int) a.1 a.2.1 a.2.2.1) ((l.drop i).foldl (findStep h s) a) := by
  intro d
  induction d with
  | zero =>
    intro i hi a;refine Ev.step (fun k => by simp only [plane_Find.l0]; rfl) (Ev.neg zO (Ev.ret ?_));rw [List.drop_eq_nil_of_le zO];rfl
  | succ d ih =>
    intro i hi a;have hlt : i < l.length := by omega
    have hw : wrap64 ((i : Int) + 1) = ((i + 1 : Nat) : Int) := by unfold wrap64; omega
    rw [rd_drop hlt, List.foldl_cons];generalize hr : rd_T64 l (i : Int) = r;refine Ev.step (fun k => by simp only [plane_Find.l0]; rw [hr]) (Ev.pos zO (Ev.pos zO (Ev.pos zO ?_)));rw [hw];have hn := ih (i + 1) zO (findStep h s a r);by_cases h1 : r.f0.toList = h.toList;rotate_left
    · have hm : may h s r = false := by unfold may; simp [h1]
      have e : findStep h s a r = a := by unfold findStep; rw [zn (by simp [hm])]
      rw [e] at hn ⊢;exact Ev.neg h1 hn
    refine Ev.pos h1 (Ev.call (fits_is r.f1 s hs) ?_);by_cases h2 : fitsB r.f1 s = true;rotate_left
    · have hm : may h s r = false := by unfold may; simp [h2]
      have e : findStep h s a r = a := by unfold findStep; rw [zn (by simp [hm])]
      rw [e] at hn ⊢;exact Ev.neg h2 hn
    have hm : may h s r = true := by unfold may; rw [h1, h2]; simp
    refine Ev.pos h2 ?_;by_cases h3 : a.2.2.2 = true
    · refine Ev.pos h3 ?_;by_cases h4 : (r.f1.size : Int) > (a.2.1.size : Int)
      · have e : findStep h s a r = (r.f0, r.f1, r.f2, true) := by unfold findStep; rw [zp hm, zp h3, zp h4]
        rw [e] at hn ⊢;exact Ev.pos h4 hn
      have e : findStep h s a r = a := by unfold findStep; rw [zp hm, zp h3, zn h4]
      rw [e] at hn ⊢;exact Ev.neg h4 hn
    have e : findStep h s a r = (r.f0, r.f1, r.f2, true) := by unfold findStep; rw [zp hm, zn h3]
    rw [e] at hn ⊢;exact Ev.neg h3 hn
theorem Find_is (v : Int) (l : List S64) (ps : List S39) (h s : ByteArray) (hs : s.size ≤ 4611686018427387904) (hl : l.length ≤ 9223372036854775806) : Ev (fun k => plane_Find.f k v l ps h s) (findF h s l) := by
  unfold plane_Find.f;exact Find_loop h s hs l hl l.length 0 zO nofound
theorem rFits_is (p s : ByteArray) (hs : s.size ≤ 4611686018427387904) : Ev (fun k => tollgateref10_Fits.f k p s) (fitsB p s) := by
  unfold tollgateref10_Fits.f fitsB;have j1 : Ev (fun k => tollgateref10_Fits.j0 k p s true) false := Ev.step (f := fun _ => some false) (fun k => by simp only [tollgateref10_Fits.j0, if_true]) (Ev.now _);by_cases h1 : p.size ≤ s.size;rotate_left
  · rw [zn h1];exact Ev.pos zO j1
  rw [zp h1];refine Ev.neg zO (Ev.pos zO (Ev.pos zO ?_));rw [Int.toNat_natCast];by_cases h2 : (s.extract 0 p.size).toList = p.toList;rotate_left
  · have hb : ((s.extract 0 p.size).toList != p.toList) = true := by simpa using h2
    rw [zn h2, hb];exact j1
  have hb : ((s.extract 0 p.size).toList != p.toList) = false := by rw [h2]; simp
  rw [zp h2, hb];refine Ev.step (fun k => by simp only [tollgateref10_Fits.j0, Bool.false_eq_true, if_false]; rfl) ?_;by_cases h3 : s.size = p.size
  · refine Ev.pos zO (Ev.ret ?_);simp [h3]
  refine Ev.neg zO (Ev.pos zO (Ev.pos zO ?_));by_cases h5 : bt s (p.size : Int) = 47
  · refine Ev.pos h5 (Ev.ret ?_);simp [h5]
  refine Ev.neg h5 ?_;by_cases h4 : p.toList = []
  · have h6 := (toList_nil p).1 h4;refine Ev.pos h4 (Ev.ret ?_);rw [h6] at h3 h5;have h3' : decide (s.size = 0) = false := zf h3;have h5' : (bt s ((0 : Nat) : Int) == 47) = false := beq_eq_false_iff_ne.2 h5;rw [h6, h3', h5'];rfl
  have h6 : 1 ≤ p.size := by
    rcases Nat.eq_zero_or_pos p.size with h | h
    · exact absurd ((toList_nil p).2 h) h4
    exact h
  have hw : wrap64 ((p.size : Int) - 1) = ((p.size - 1 : Nat) : Int) := by unfold wrap64; omega
  rw [hw];refine Ev.neg h4 (Ev.pos zO (Ev.pos zO (Ev.ret ?_)));simp [h3, h5, h6]
theorem step64 {i n : Nat} (h : i < n) (hn : n ≤ 9223372036854775806) : wrap64 ((i : Int) + 1) = ((i + 1 : Nat) : Int) := by unfold wrap64; omega
theorem rd53_drop {l : List S39} {i : Nat} (h : i < l.length) : l.drop i = rd_T39 l (i : Int) :: l.drop (i + 1) := by
  rw [List.drop_eq_getElem_cons h];simp [rd_T39, List.getD_eq_getElem?_getD, zr h]
theorem short_loop (v : Int) (l : List S64) (ps : List S39) : ∀ (m : Nat) (n : Nat) (i : Nat), 202 ≤ m + n → n ≤ 100000 → i ≤ n → i ≤ ps.length →
    ∃ b, Ev (fun k => tollgatelaw10_short.l0 k (n : Int) (i : Int) v l ps) b ∧ (b = true → l.length ≤ 200 ∧ ps.length ≤ 200 ∧ ∀ p ∈ ps.drop i, p.f1.length ≤ 200) := by
  intro m
  induction m with
  | zero =>
    intro n i hm _ hi hl;refine ⟨false, ?_, by simp⟩;by_cases h1 : i < ps.length
    · exact Ev.step (fun k => by simp only [tollgatelaw10_short.l0]; rfl) (Ev.pos zO (Ev.neg zO (Ev.ret rfl)))
    exact Ev.step (fun k => by simp only [tollgatelaw10_short.l0]; rfl) (Ev.neg zO (Ev.neg zO (Ev.ret rfl)))
  | succ m ih =>
    intro n i hm hn hi hl;by_cases h1 : i < ps.length;rotate_left
    · by_cases h2 : n ≤ 200
      · refine ⟨decide ((l.length : Int) ≤ 200), ?_, ?_⟩
        · exact Ev.step (fun k => by simp only [tollgatelaw10_short.l0]; rfl) (Ev.neg zO (Ev.pos zO (Ev.ret rfl)))
        intro h;have := zd h;refine ⟨zO, zO, ?_⟩;rw [List.drop_eq_nil_of_le zO];simp
      refine ⟨false, ?_, by simp⟩;exact Ev.step (fun k => by simp only [tollgatelaw10_short.l0]; rfl) (Ev.neg zO (Ev.neg zO (Ev.ret rfl)))
    by_cases h2 : n ≤ 200;rotate_left
    · refine ⟨false, ?_, by simp⟩;exact Ev.step (fun k => by simp only [tollgatelaw10_short.l0]; rfl) (Ev.pos zO (Ev.neg zO (Ev.ret rfl)))
    generalize ht : (rd_T39 ps (i : Int)) = p;have hw : ∃ n' : Nat, wrap64 ((n : Int) + (1 + mn ((p.f1.length : Nat) : Int) 1000)) = (n' : Int) ∧ n + 1 ≤ n' ∧ n' ≤ n + 1001 ∧ (n' ≤ 201 → p.f1.length ≤ 200) := by
      unfold mn wrap64;by_cases h3 : (1000 : Int) < p.f1.length
      · rw [zp h3]; exact ⟨n + 1001, zO, zO, zO, zO⟩
      rw [zn h3]; exact ⟨n + 1 + p.f1.length, zO, zO, zO, zO⟩
    obtain ⟨n', e, a1, a2, a3⟩ := hw;obtain ⟨b, hb, hq⟩ := ih n' (i + 1) zO zO zO zO;refine ⟨b, Ev.step (fun k => by simp only [tollgatelaw10_short.l0]; rfl) (Ev.pos zO (Ev.pos zO (Ev.pos zO ?_))), ?_⟩
    · rw [ht, e, show wrap64 ((i : Int) + 1) = ((i + 1 : Nat) : Int) by unfold wrap64; omega];exact hb
    intro hbt;obtain ⟨q1, q2, q3⟩ := hq hbt;refine ⟨q1, q2, ?_⟩;rw [rd53_drop h1, ht];intro x hx
    rcases List.mem_cons.1 hx with rfl | hx
    rotate_left
    · exact q3 x hx
    by_cases h4 : n' ≤ 201
    · exact a3 h4
    exfalso
    have : b = false := by
      have hb2 : Ev (fun k => tollgatelaw10_short.l0 k (n' : Int) ((i + 1 : Nat) : Int) v l ps) false := by
        by_cases h5 : i + 1 < ps.length
        · exact Ev.step (fun k => by simp only [tollgatelaw10_short.l0]; rfl) (Ev.pos zO (Ev.neg zO (Ev.ret rfl)))
        exact Ev.step (fun k => by simp only [tollgatelaw10_short.l0]; rfl) (Ev.neg zO (Ev.neg zO (Ev.ret rfl)))
      obtain ⟨K1, h6⟩ := hb;obtain ⟨K2, h7⟩ := hb2;have e1 := h6 (K1 + K2) zO;have e2 := h7 (K1 + K2) zO;exact zo (e1.symm.trans e2)
    rw [this] at hbt;cases hbt
theorem short_is (v : Int) (l : List S64) (ps : List S39) : ∃ b, Ev (fun k => tollgatelaw10_short.f k v l ps) b ∧ (b = true → l.length ≤ 200 ∧ ps.length ≤ 200 ∧ ∀ p ∈ ps, p.f1.length ≤ 200) := by
  obtain ⟨b, hb, hq⟩ := short_loop v l ps 202 0 0 zO zO zO zO;exact ⟨b, by unfold tollgatelaw10_short.f; exact hb, by rw [List.drop_zero] at hq; exact hq⟩
theorem Copy_loop (v : Int) (l : List S64) (ps : List S39) (hp : ps.length ≤ 200) (ht : ∀ p ∈ ps, p.f1.length ≤ 200) (v' : Int) (l' : List S64) : ∀ (d i : Nat), i + d = ps.length →
    Ev (fun k => tollgateref08_CopyConfig.l0 k (i : Int) v l ps v' l' (ps.take i)) (v', l', ps) := by
  intro d
  induction d with
  | zero =>
    intro i hi;refine Ev.step (fun k => by simp only [tollgateref08_CopyConfig.l0]; rfl) (Ev.neg zO (Ev.ret ?_));rw [List.take_of_length_le zO]
  | succ d ih =>
    intro i hi;have h1 : i < ps.length := by omega
    have hm : rd_T39 ps (i : Int) ∈ ps := List.mem_of_mem_drop (i := i) (by rw [rd53_drop h1]; exact List.mem_cons_self);have htk : ps.take (i + 1) = ps.take i ++ [rd_T39 ps (i : Int)] := by
      rw [List.take_add_one, zr h1];simp [rd_T39, List.getD_eq_getElem?_getD, zr h1]
    have hlen : (ps.take i).length ≤ 200 := by rw [List.length_take]; omega
    have := ht _ hm;refine Ev.step (fun k => by simp only [tollgateref08_CopyConfig.l0]; rfl) (Ev.pos zO (Ev.pos zO (Ev.put (Ev.pos (by simp only [List.length_nil]; omega) (Ev.pos zO ?_)))));rw [step64 h1 zO];have := ih (i + 1) zO;rw [htk] at this;exact this
theorem Copy_is (v : Int) (l : List S64) (ps : List S39) (hl : l.length ≤ 200) (hp : ps.length ≤ 200) (ht : ∀ p ∈ ps, p.f1.length ≤ 200) : Ev (fun k => tollgateref08_CopyConfig.f k v l ps) (v, l, ps) := by
  unfold tollgateref08_CopyConfig.f;refine Ev.put (Ev.pos (by simp only [List.length_nil]; omega) ?_);exact Copy_loop v l ps hp ht v l ps.length 0 zO
theorem SameTargets_is (l : List S41) (hl : l.length ≤ 200) : Ev (fun k => tollgateref08_SameTargets.f k l l) true := by
  unfold tollgateref08_SameTargets.f;refine Ev.pos rfl ?_;have loop : ∀ (d i : Nat), i + d = l.length → Ev (fun k => tollgateref08_SameTargets.l0 k l l (i : Int)) true := by
    intro d
    induction d with
    | zero => intro i hi; exact Ev.step (fun k => by simp only [tollgateref08_SameTargets.l0]; rfl) (Ev.neg zO (Ev.ret rfl))
    | succ d ih =>
      intro i hi;refine Ev.step (fun k => by simp only [tollgateref08_SameTargets.l0]; rfl) (Ev.pos zO (Ev.pos zO (Ev.pos zO ?_)));refine Ev.pos trivial ?_;refine Ev.pos trivial ?_;rw [step64 (show i < l.length by omega) zO];exact ih (i + 1) zO
  exact loop l.length 0 zO
theorem Same_is (v : Int) (l : List S64) (ps : List S39) (hl : l.length ≤ 200) (hp : ps.length ≤ 200) (ht : ∀ p ∈ ps, p.f1.length ≤ 200) : Ev (fun k => tollgateref08_SameConfig.f k v l ps v l ps) true := by
  unfold tollgateref08_SameConfig.f;have loop1 : ∀ (d i : Nat), i + d = l.length → Ev (fun k => tollgateref08_SameConfig.l1 k (i : Int) v l ps v l ps) true := by
    intro d
    induction d with
    | zero => intro i hi; exact Ev.step (fun k => by simp only [tollgateref08_SameConfig.l1]; rfl) (Ev.neg zO (Ev.ret rfl))
    | succ d ih =>
      intro i hi;refine Ev.step (fun k => by simp only [tollgateref08_SameConfig.l1]; rfl) (Ev.pos zO (Ev.pos zO (Ev.pos zO (Ev.neg (by simp) ?_))));rw [step64 (show i < l.length by omega) zO];exact ih (i + 1) zO
  have loop0 : ∀ (d i : Nat), i + d = ps.length → Ev (fun k => tollgateref08_SameConfig.l0 k (i : Int) v l ps v l ps) true := by
    intro d
    induction d with
    | zero => intro i hi; exact Ev.step (fun k => by simp only [tollgateref08_SameConfig.l0]; rfl) (Ev.neg zO (loop1 l.length 0 zO))
    | succ d ih =>
      intro i hi;have h1 : i < ps.length := by omega
      have hm : rd_T39 ps (i : Int) ∈ ps := List.mem_of_mem_drop (i := i) (by rw [rd53_drop h1]; exact List.mem_cons_self);refine Ev.step (fun k => by simp only [tollgateref08_SameConfig.l0]; rfl) (Ev.pos zO (Ev.pos zO (Ev.pos zO ?_)));refine Ev.pos trivial ?_;refine Ev.bind (SameTargets_is _ (ht _ hm)) (Ev.pos rfl ?_);rw [step64 h1 zO];exact ih (i + 1) zO
  refine Ev.pos rfl ?_;refine Ev.pos rfl ?_;exact Ev.step (fun k => by simp only [tollgateref08_SameConfig.j0]; rfl) (Ev.neg (by simp) (loop0 ps.length 0 zO))
theorem fold_inv (h s : ByteArray) : ∀ (l : List S64) (a : Found),
    (a.2.2.2 = true → (l.foldl (findStep h s) a).2.2.2 = true ∧ a.2.1.size ≤ (l.foldl (findStep h s) a).2.1.size) ∧
    (∀ x ∈ l, may h s x = true → (l.foldl (findStep h s) a).2.2.2 = true ∧ x.f1.size ≤ (l.foldl (findStep h s) a).2.1.size) ∧
    (l.foldl (findStep h s) a = a ∨ ∃ r ∈ l, may h s r = true ∧ l.foldl (findStep h s) a = (r.f0, r.f1, r.f2, true))
  | [], a => ⟨fun h => ⟨h, zh _⟩, by simp, Or.inl rfl⟩
  | x :: l, a => by
    obtain ⟨i1, i2, i3⟩ := fold_inv h s l (findStep h s a x);have hs : (a.2.2.2 = true → (findStep h s a x).2.2.2 = true ∧ a.2.1.size ≤ (findStep h s a x).2.1.size) ∧ (may h s x = true → (findStep h s a x).2.2.2 = true ∧ x.f1.size ≤ (findStep h s a x).2.1.size) ∧ (findStep h s a x = a ∨ (may h s x = true ∧ findStep h s a x = (x.f0, x.f1, x.f2, true))) := by
      unfold findStep;by_cases h1 : may h s x = true
      · rw [zp h1];by_cases h2 : a.2.2.2 = true
        · rw [zp h2];by_cases h3 : (x.f1.size : Int) > (a.2.1.size : Int)
          · rw [zp h3];exact ⟨fun _ => ⟨rfl, by show _ ≤ x.f1.size; omega⟩, fun _ => ⟨rfl, zh _⟩, Or.inr ⟨h1, rfl⟩⟩
          rw [zn h3];exact ⟨fun h => ⟨h, zh _⟩, fun _ => ⟨h2, zO⟩, Or.inl rfl⟩
        rw [zn h2];exact ⟨fun h => absurd h h2, fun _ => ⟨rfl, zh _⟩, Or.inr ⟨h1, rfl⟩⟩
      rw [zn h1];exact ⟨fun h => ⟨h, zh _⟩, fun h => absurd h h1, Or.inl rfl⟩
    obtain ⟨s1, s2, s3⟩ := hs;rw [List.foldl_cons];refine ⟨fun ha => ?_, fun y hy hm => ?_, ?_⟩
    · obtain ⟨e1, e2⟩ := s1 ha;obtain ⟨e3, e4⟩ := i1 e1;exact ⟨e3, Nat.le_trans e2 e4⟩
    · rcases List.mem_cons.1 hy with rfl | hy
      · obtain ⟨e1, e2⟩ := s2 hm;obtain ⟨e3, e4⟩ := i1 e1;exact ⟨e3, Nat.le_trans e2 e4⟩
      exact i2 y hy hm
    rcases i3 with e | ⟨r, hr, hm, e⟩
    · rw [e]
      rcases s3 with e' | ⟨hm, e'⟩
      · exact Or.inl e'
      exact Or.inr ⟨x, List.mem_cons_self, hm, e'⟩
    exact Or.inr ⟨r, List.mem_cons_of_mem _ hr, hm, e⟩
theorem may_fits {h s : ByteArray} {r : S64} (hm : may h s r = true) : r.f0.toList = h.toList ∧ fitsB r.f1 s = true := by
  unfold may at hm;rw [Bool.and_eq_true, beq_iff_eq] at hm;exact hm
theorem fits_size {p s : ByteArray} (h : fitsB p s = true) : p.size ≤ s.size := by
  unfold fitsB at h
  split at h
  · assumption
  cases h
theorem fold_small (h s : ByteArray) (n : Nat) : ∀ (l : List S64) (a : Found), (a.2.2.2 = true → a.2.1.size < n) → (∀ x ∈ l, may h s x = true → x.f1.size < n) → ((l.foldl (findStep h s) a).2.2.2 = true → (l.foldl (findStep h s) a).2.1.size < n) := by
  intro l a ha hl hf
  rcases (fold_inv h s l a).2.2 with e | ⟨r, hr, hm, e⟩
  · rw [e] at hf ⊢; exact ha hf
  rw [e]; exact hl r hr hm
theorem fold_keep (h s : ByteArray) : ∀ (l : List S64) (a : Found), a.2.2.2 = true → (∀ x ∈ l, may h s x = true → x.f1.size ≤ a.2.1.size) → l.foldl (findStep h s) a = a
  | [], _, _, _ => rfl
  | x :: l, a, ha, hl => by
    have e : findStep h s a x = a := by
      unfold findStep;by_cases h1 : may h s x = true
      · rw [zp h1, zp ha, zn (by have := hl x List.mem_cons_self h1; omega)]
      rw [zn h1]
    rw [List.foldl_cons, e];exact fold_keep h s l a ha (fun y hy => hl y (List.mem_cons_of_mem _ hy))
theorem findF_first {h s : ByteArray} {l1 l2 : List S64} {r : S64} (hm : may h s r = true) (h1 : ∀ x ∈ l1, may h s x = true → x.f1.size < r.f1.size) (h2 : ∀ x ∈ l2, may h s x = true → x.f1.size ≤ r.f1.size) : findF h s (l1 ++ r :: l2) = (r.f0, r.f1, r.f2, true) := by
  unfold findF;rw [List.foldl_append, List.foldl_cons];have e : findStep h s (l1.foldl (findStep h s) nofound) r = (r.f0, r.f1, r.f2, true) := by
    have := fold_small h s r.f1.size l1 nofound (fun h => by cases h) h1;generalize l1.foldl (findStep h s) nofound = a at this;unfold findStep;rw [zp hm];by_cases h3 : a.2.2.2 = true
    · rw [zp h3, zp (by have := this h3; omega)]
    rw [zn h3]
  rw [e];exact fold_keep h s l2 _ rfl h2
theorem findF_none {h s : ByteArray} {l : List S64} (hn : ∀ x ∈ l, may h s x = false) : findF h s l = nofound := by
  rcases (fold_inv h s l nofound).2.2 with e | ⟨r, hr, hm, e⟩
  · exact e
  rw [hn r hr] at hm; cases hm
theorem rFind_at (h s : ByteArray) (hs : s.size ≤ 4611686018427387904) (v : Int) (l : List S64) (ps : List S39) (hl : l.length ≤ 200) (n : Nat) (R : Found)
    (hall : ∀ x ∈ l, may h s x = true → x.f1.size ≤ n) (next : (∀ x ∈ l, may h s x = true → x.f1.size < n) → Ev (fun k => tollgateref10_Find.l0 k h s (wrap64 ((n : Int) - 1)) v l ps) R) (hR : R = findF h s l) :
    ∀ (d i : Nat), i + d = l.length → (∀ x ∈ l.take i, may h s x = true → x.f1.size < n) → Ev (fun k => tollgateref10_Find.l1 k h s (n : Int) (i : Int) v l ps) R := by
  intro d
  induction d with
  | zero =>
    intro i hi hb;rw [List.take_of_length_le zO] at hb;exact Ev.step (fun k => by simp only [tollgateref10_Find.l1]; rfl) (Ev.neg zO (next hb))
  | succ d ih =>
    intro i hi hb;have h1 : i < l.length := by omega
    have hdr := rd_drop h1;have htk : l.take (i + 1) = l.take i ++ [rd_T64 l (i : Int)] := by
      rw [List.take_add_one, zr h1];simp [rd_T64, List.getD_eq_getElem?_getD, zr h1]
    generalize hr : rd_T64 l (i : Int) = r at hdr htk;have hmem : r ∈ l := List.mem_of_mem_drop (i := i) (by rw [hdr]; exact List.mem_cons_self);have go : (may h s r = true → r.f1.size < n) → Ev (fun k => tollgateref10_Find.l1 k h s (n : Int) (wrap64 ((i : Int) + 1)) v l ps) R := by
      intro hlt;rw [step64 h1 zO];refine ih (i + 1) zO ?_;rw [htk];intro x hx
      rcases List.mem_append.1 hx with hx | hx
      · exact hb x hx
      rw [List.mem_singleton] at hx;subst hx;exact hlt
    refine Ev.step (fun k => by simp only [tollgateref10_Find.l1]; rw [hr]) (Ev.pos zO (Ev.pos zO ?_));by_cases h2 : r.f0.toList = h.toList;rotate_left
    · exact Ev.neg h2 (go (fun hm => absurd (may_fits hm).1 h2))
    refine Ev.pos h2 ?_;by_cases h3 : r.f1.size = n;rotate_left
    · refine Ev.neg zO (go (fun hm => by have := hall r hmem hm; omega))
    refine Ev.pos zO (Ev.bind (rFits_is r.f1 s hs) ?_);by_cases h4 : fitsB r.f1 s = true
    · rw [h4];refine Ev.pos rfl (Ev.ret ?_);have hm : may h s r = true := by unfold may; rw [h2, h4]; simp
      rw [hR]
      conv => rhs; rw [← List.take_append_drop i l, hdr]
      refine (findF_first hm (fun x hx hx' => by have := hb x hx hx'; omega) (fun x hx hx' => ?_)).symm;have := hall x (List.mem_of_mem_drop (i := i) (by rw [hdr]; exact List.mem_cons_of_mem _ hx)) hx';omega
    refine Ev.neg h4 (go (fun hm => absurd (may_fits hm).2 h4))
theorem rFind_is (v : Int) (l : List S64) (ps : List S39) (hl : l.length ≤ 200) (h s : ByteArray) (hs : s.size ≤ 4611686018427387904) : Ev (fun k => tollgateref10_Find.f k v l ps h s) (findF h s l) := by
  unfold tollgateref10_Find.f;have down : ∀ (n : Nat), n ≤ s.size → (∀ x ∈ l, may h s x = true → x.f1.size ≤ n) → Ev (fun k => tollgateref10_Find.l0 k h s (n : Int) v l ps) (findF h s l) := by
    intro n
    induction n with
    | zero =>
      intro hn hall;refine Ev.step (fun k => by simp only [tollgateref10_Find.l0]; rfl) (Ev.pos zO ?_);refine rFind_at h s hs v l ps hl 0 _ hall (fun hb => ?_) rfl l.length 0 zO (by simp);have : findF h s l = nofound := findF_none (fun x hx => by
        cases hm : may h s x with
        | false => rfl
        | true => exact absurd (hb x hx hm) (Nat.not_lt_zero _))
      rw [this];exact Ev.step (fun k => by simp only [tollgateref10_Find.l0]; rfl) (Ev.neg (by unfold wrap64; omega) (Ev.ret rfl))
    | succ n ih =>
      intro hn hall;refine Ev.step (fun k => by simp only [tollgateref10_Find.l0]; rfl) (Ev.pos zO ?_);refine rFind_at h s hs v l ps hl (n + 1) _ hall (fun hb => ?_) rfl l.length 0 zO (by simp);rw [show wrap64 (((n + 1 : Nat) : Int) - 1) = (n : Int) by unfold wrap64; omega];exact ih zO (fun x hx hm => by have := hb x hx hm; omega)
  exact down s.size (zh _) (fun x _ hm => fits_size (may_fits hm).2)
end Go.Proofs.YtahaihnlkohhgaaGreatDoor.PP
end
section
namespace Go.Proofs.YtahaihnlkohhgaaGreatDoor.FL
open Ieee
def cutE (n d : Nat) : Nat := Toward.even.cut false n d
theorem cut_eq (n d : Nat) : cutE n d = n / 2 ^ min d (n.log2 + 2) + (decide (2 ^ min d (n.log2 + 2) < 2 * (n % 2 ^ min d (n.log2 + 2))) || (2 ^ min d (n.log2 + 2) == 2 * (n % 2 ^ min d (n.log2 + 2)) && n / 2 ^ min d (n.log2 + 2) % 2 == 1)).toNat := by
  unfold cutE Toward.cut;simp only [Nat.one_shiftLeft]
theorem lt_two_log (n : Nat) : n < 2 ^ (n.log2 + 1) := Nat.lt_log2_self
theorem two_log_le {n : Nat} (h : n ≠ 0) : 2 ^ n.log2 ≤ n := Nat.log2_self_le h
theorem cut_near (n d : Nat) : 2 * (cutE n d * 2 ^ d) ≤ 2 * n + 2 ^ d ∧ 2 * n ≤ 2 * (cutE n d * 2 ^ d) + 2 ^ d := by
  rw [cut_eq];by_cases h : d ≤ n.log2 + 2
  · rw [Nat.min_eq_left h];generalize hG : 2 ^ d = G;have hG0 : 0 < G := by rw [← hG]; exact Nat.two_pow_pos _
    have hd := Nat.div_add_mod n G;have hm := Nat.mod_lt n hG0;generalize n / G = q at *;generalize n % G = r at *;have e : q * G = G * q := Nat.mul_comm _ _;by_cases c : (decide (G < 2 * r) || (G == 2 * r && q % 2 == 1)) = true
    · rw [c];have : G ≤ 2 * r := by
        simp only [Bool.or_eq_true, decide_eq_true_eq, Bool.and_eq_true, beq_iff_eq] at c;omega
      have e2 : (q + true.toNat) * G = G * q + G := by rw [Nat.add_mul, e]; simp
      omega
    rw [Bool.not_eq_true] at c;rw [c];have : 2 * r ≤ G := by
      simp only [Bool.or_eq_false_iff, decide_eq_false_iff_not] at c;omega
    have e2 : (q + false.toNat) * G = G * q := by rw [← e]; simp
    omega
  rw [Nat.min_eq_right zO];have h1 := lt_two_log n;have h2 : n < 2 ^ (n.log2 + 2) := Nat.lt_trans h1 (Nat.pow_lt_pow_right zO zO);have h3 : 2 ^ (n.log2 + 2) = 2 * 2 ^ (n.log2 + 1) := by rw [show n.log2 + 2 = (n.log2 + 1) + 1 from rfl, Nat.pow_succ, Nat.mul_comm]
  have h4 : 2 ^ (n.log2 + 2) ≤ 2 ^ d := Nat.pow_le_pow_right zO zO;rw [Nat.div_eq_of_lt h2, Nat.mod_eq_of_lt h2];have c : (decide (2 ^ (n.log2 + 2) < 2 * n) || (2 ^ (n.log2 + 2) == 2 * n && 0 % 2 == 1)) = false := by
    simp only [Bool.or_eq_false_iff, decide_eq_false_iff_not];refine ⟨zO, ?_⟩;have : (2 ^ (n.log2 + 2) == 2 * n) = false := beq_eq_false_iff_ne.2 zO;rw [this];rfl
  rw [c];simp;omega
theorem cut_mono {n n' : Nat} (h : n ≤ n') (d : Nat) : cutE n d ≤ cutE n' d := by
  rcases Nat.lt_or_ge (cutE n' d) (cutE n d) with hlt | hge
  · exfalso
    obtain ⟨a1, _⟩ := cut_near n d;obtain ⟨_, b2⟩ := cut_near n' d;have hm : (cutE n' d + 1) * 2 ^ d ≤ cutE n d * 2 ^ d := Nat.mul_le_mul_right _ hlt;rw [Nat.add_mul] at hm;have : n = n' := by omega
    subst this;omega
  exact hge
theorem log2_shift {n : Nat} (h : n ≠ 0) (k : Nat) : (n * 2 ^ k).log2 = n.log2 + k := by
  have h1 : n * 2 ^ k ≠ 0 := Nat.mul_ne_zero h (Nat.ne_of_gt (Nat.two_pow_pos _));rw [Nat.log2_eq_iff h1]
  constructor
  · rw [Nat.pow_add]; exact Nat.mul_le_mul_right _ (two_log_le h)
  rw [show n.log2 + k + 1 = (n.log2 + 1) + k by omega, Nat.pow_add];exact Nat.mul_lt_mul_of_pos_right (lt_two_log n) (Nat.two_pow_pos _)
theorem cut_scale (n d m : Nat) : cutE (n * 2 ^ m) (d + m) = cutE n d := by
  by_cases hn : n = 0
  · subst hn;rw [Nat.zero_mul, cut_eq, cut_eq];simp
  rw [cut_eq, cut_eq, log2_shift hn];rw [show min (d + m) (n.log2 + m + 2) = min d (n.log2 + 2) + m by omega, Nat.pow_add];have hp : 0 < 2 ^ m := Nat.two_pow_pos _;generalize 2 ^ min d (n.log2 + 2) = G;rw [Nat.mul_div_mul_right _ _ hp, Nat.mul_mod_mul_right];have e : 2 * (n % G * 2 ^ m) = (2 * (n % G)) * 2 ^ m := (Nat.mul_assoc _ _ _).symm;rw [e];have c1 : decide (G * 2 ^ m < 2 * (n % G) * 2 ^ m) = decide (G < 2 * (n % G)) := by
    rw [decide_eq_decide];exact ⟨fun h => Nat.lt_of_mul_lt_mul_right h, fun h => Nat.mul_lt_mul_of_pos_right h hp⟩
  have c2 : (G * 2 ^ m == 2 * (n % G) * 2 ^ m) = (G == 2 * (n % G)) := by
    rw [Bool.eq_iff_iff, beq_iff_eq, beq_iff_eq];exact ⟨fun h => Nat.eq_of_mul_eq_mul_right hp h, fun h => congrArg (· * 2 ^ m) h⟩
  rw [c1, c2]
theorem cut_same {a d a' d' : Nat} (h : a * 2 ^ d' = a' * 2 ^ d) : cutE a d = cutE a' d' := by
  rw [← cut_scale a d d', ← cut_scale a' d' d, h, Nat.add_comm]
theorem cut_zero (n : Nat) : cutE n 0 = n := by
  have := cut_near n 0;omega
def INF : Nat := 9218868437227405312
def near (n : Nat) (p : Int) : Nat := Ieee.double.nearest false n p
theorem near_zero (p : Int) : near 0 p = 0 := by
  unfold near Format.nearest Format.word;simp
theorem near_eq {n : Nat} (hn : n ≠ 0) (p : Int) : near n p = min ((max (p + n.log2 - 52) (-1074) - -1074).toNat * 4503599627370496 + cutE (n * 2 ^ (p - max (p + n.log2 - 52) (-1074)).toNat) (max (p + n.log2 - 52) (-1074) - p).toNat) 9218868437227405312 := by
  have hB : Ieee.double.binade = 4503599627370496 := by decide
  have hI : Ieee.double.infRung = 9218868437227405312 := by decide
  have hL : Ieee.double.leastPlace = -1074 := by decide
  have hF : Ieee.double.fractionBits = 52 := rfl;unfold near Format.nearest Format.word cutE;rw [zn hn];simp only [Nat.shiftLeft_eq, hB, hI, hL, hF, Bool.false_eq_true, if_false];rfl
theorem near_scale (n k : Nat) (p : Int) : near (n * 2 ^ k) (p - k) = near n p := by
  by_cases hn : n = 0
  · subst hn; rw [Nat.zero_mul, near_zero, near_zero]
  have h1 : n * 2 ^ k ≠ 0 := Nat.mul_ne_zero hn (Nat.ne_of_gt (Nat.two_pow_pos _));rw [near_eq h1, near_eq hn, log2_shift hn];have e : p - (k : Int) + ((n.log2 + k : Nat) : Int) - 52 = p + n.log2 - 52 := by omega
  rw [e];generalize max (p + (n.log2 : Int) - 52) (-1074) = L
  congr 2
  refine cut_same ?_;rw [Nat.mul_assoc, Nat.mul_assoc, Nat.mul_assoc, ← Nat.pow_add, ← Nat.pow_add, ← Nat.pow_add]
  congr 2
  omega
def rnd (n : Nat) : Nat := near n (-1074)
theorem near_low (n j : Nat) {p : Int} (hp : p = -1074 + j) : near n p = rnd (n * 2 ^ j) := by
  unfold rnd;rw [← near_scale n j p, hp]
  congr 1
  omega
theorem near_D {n : Nat} (hn : n ≠ 0) (d0 : Nat) : near n (-1074 - d0) = min ((max (n.log2 - 52) d0 - d0) * 4503599627370496 + cutE n (max (n.log2 - 52) d0)) 9218868437227405312 := by
  rw [near_eq hn];have e1 : max (-1074 - (d0 : Int) + (n.log2 : Int) - 52) (-1074) = -1074 - (d0 : Int) + ((max (n.log2 - 52) d0 : Nat) : Int) := by omega
  rw [e1];generalize hD : max (n.log2 - 52) d0 = D;have hd : d0 ≤ D := by omega
  have e2 : (-1074 - (d0 : Int) - (-1074 - (d0 : Int) + (D : Int))).toNat = 0 := by omega
  have e3 : (-1074 - (d0 : Int) + (D : Int) - (-1074 - (d0 : Int))).toNat = D := by omega
  have e4 : (-1074 - (d0 : Int) + (D : Int) - -1074).toNat = D - d0 := by omega
  rw [e2, e3, e4, Nat.pow_zero, Nat.mul_one]
theorem near_mono {n n' : Nat} (h : n ≤ n') (d0 : Nat) : near n (-1074 - d0) ≤ near n' (-1074 - d0) := by
  by_cases hn : n = 0
  · subst hn; rw [near_zero]; exact Nat.zero_le _
  have hn' : n' ≠ 0 := by omega
  rw [near_D hn, near_D hn'];have hl : n.log2 ≤ n'.log2 := by
    rw [Nat.le_log2 hn'];exact Nat.le_trans (two_log_le hn) h
  have hD : max (n.log2 - 52) d0 ≤ max (n'.log2 - 52) d0 := by omega
  have hd0 : d0 ≤ max (n.log2 - 52) d0 := by omega
  have hL : n.log2 ≤ max (n.log2 - 52) d0 + 52 := by omega
  have hL' : max (n.log2 - 52) d0 < max (n'.log2 - 52) d0 → n'.log2 = max (n'.log2 - 52) d0 + 52 := by omega
  generalize max (n.log2 - 52) d0 = D at *;generalize max (n'.log2 - 52) d0 = D' at *
  suffices hs : (D - d0) * 4503599627370496 + cutE n D ≤ (D' - d0) * 4503599627370496 + cutE n' D' from Nat.le_min.2 ⟨Nat.le_trans (Nat.min_le_left _ _) hs, Nat.min_le_right _ _⟩
  rcases Nat.eq_or_lt_of_le hD with e | hlt
  · subst e;have := cut_mono h D;omega
  have q1 : cutE n D ≤ 9007199254740992 := by
    obtain ⟨a1, _⟩ := cut_near n D;have h1 := lt_two_log n;have h2 : 2 ^ (n.log2 + 1) ≤ 2 ^ (D + 53) := Nat.pow_le_pow_right zO zO;have h3 : (2 : Nat) ^ (D + 53) = 2 ^ D * 9007199254740992 := Nat.pow_add 2 D 53;rw [h3] at h2;have h1 := Nat.lt_of_lt_of_le h1 h2;clear h2 h3;have hG : 0 < 2 ^ D := Nat.two_pow_pos _;generalize 2 ^ D = G at *
    rcases Nat.lt_or_ge 9007199254740992 (cutE n D) with hq | hq
    · exfalso
      have : (9007199254740992 + 1) * G ≤ cutE n D * G := Nat.mul_le_mul_right _ hq;have e : (9007199254740992 + 1) * G = G * 9007199254740992 + G := by omega
      omega
    exact hq
  have q2 : 4503599627370496 ≤ cutE n' D' := by
    obtain ⟨_, b2⟩ := cut_near n' D';have h1 := two_log_le hn';have h3 : (2 : Nat) ^ (D' + 52) = 2 ^ D' * 4503599627370496 := Nat.pow_add 2 D' 52;rw [hL' hlt, h3] at h1;clear h3;have hG : 0 < 2 ^ D' := Nat.two_pow_pos _;generalize 2 ^ D' = G at *
    rcases Nat.lt_or_ge (cutE n' D') 4503599627370496 with hq | hq
    · exfalso
      have : (cutE n' D' + 1) * G ≤ 4503599627370496 * G := Nat.mul_le_mul_right _ hq;rw [Nat.add_mul] at this;have e : 4503599627370496 * G = G * 4503599627370496 := Nat.mul_comm _ _;omega
    exact hq
  omega
theorem near_le (n : Nat) (p : Int) : near n p ≤ INF := by
  by_cases hn : n = 0
  · subst hn; rw [near_zero]; exact Nat.zero_le _
  rw [near_eq hn]; exact Nat.min_le_right _ _
theorem rnd_mono {n n' : Nat} (h : n ≤ n') : rnd n ≤ rnd n' := by
  have := near_mono h 0;exact this
theorem rnd_le (n : Nat) : rnd n ≤ INF := near_le _ _
def val (b : Nat) : Nat := if b < 4503599627370496 then b else (4503599627370496 + b % 4503599627370496) * 2 ^ (b / 4503599627370496 - 1)
theorem log_norm {m : Nat} (h1 : 4503599627370496 ≤ m) (h2 : m < 9007199254740992) : m.log2 = 52 := by
  rw [Nat.log2_eq_iff zO];exact ⟨h1, h2⟩
theorem rnd_val {b : Nat} (h : b < INF) : rnd (val b) = b := by
  unfold INF at h;unfold val
  split
  · rename_i hb
    by_cases h0 : b = 0
    · subst h0; exact near_zero _
    show near b (-1074 - ((0 : Nat) : Int)) = b
    rw [near_D h0];have hl : b.log2 ≤ 52 := by
      have : b.log2 < 52 := by
        rw [Nat.log2_lt h0];exact hb
      omega
    have : max (b.log2 - 52) 0 = 0 := by omega
    rw [this, cut_zero];omega
  rename_i hb
  have hm := Nat.mod_lt b (show 0 < 4503599627370496 by decide);have hd := Nat.div_add_mod b 4503599627370496;generalize b / 4503599627370496 = q at *;generalize b % 4503599627370496 = r at *;rw [← near_low (4503599627370496 + r) (q - 1) rfl, near_eq zO, log_norm zO zO];have e1 : max (-1074 + ((q - 1 : Nat) : Int) + ((52 : Nat) : Int) - 52) (-1074) = -1074 + ((q - 1 : Nat) : Int) := by omega
  rw [e1];have e2 : (-1074 + ((q - 1 : Nat) : Int) - (-1074 + ((q - 1 : Nat) : Int))).toNat = 0 := by omega
  have e3 : (-1074 + ((q - 1 : Nat) : Int) - -1074).toNat = q - 1 := by omega
  rw [e2, e3, Nat.pow_zero, Nat.mul_one, cut_zero];omega
theorem val_lt {a b : Nat} (ha : a < INF) (h : val a < val b) (hb : b < INF) : a < b := by
  have h1 := rnd_mono (Nat.le_of_lt h);rw [rnd_val ha, rnd_val hb] at h1
  rcases Nat.eq_or_lt_of_le h1 with e | hlt
  · subst e; omega
  exact hlt
theorem val_inj {a b : Nat} (ha : a < INF) (hb : b < INF) (h : val a = val b) : a = b := by
  rw [← rnd_val ha, ← rnd_val hb, h]
theorem val_mono {a b : Nat} (ha : a < INF) (hb : b < INF) (h : a ≤ b) : val a ≤ val b := by
  rcases Nat.lt_or_ge (val b) (val a) with hlt | hge
  · have := val_lt hb hlt ha; omega
  exact hge
theorem val_lt_iff {a b : Nat} (ha : a < INF) (hb : b < INF) : val a < val b ↔ a < b := by
  constructor
  · intro h; exact val_lt ha h hb
  intro h;have := val_mono ha hb (Nat.le_of_lt h)
  rcases Nat.eq_or_lt_of_le this with e | hlt
  · have := val_inj ha hb e; omega
  exact hlt
theorem val_zero : val 0 = 0 := rfl
theorem read_fin {b : Nat} (h : b < INF) : ∃ (m j : Nat), Ieee.double.read b = .number false m (-1074 + j) ∧ val b = m * 2 ^ j := by
  unfold INF at h;have hs : Ieee.double.signWeight = 9223372036854775808 := rfl;have hB : Ieee.double.binade = 4503599627370496 := rfl;have hI : Ieee.double.infRung = 9218868437227405312 := rfl;have hL : Ieee.double.leastPlace = -1074 := rfl;unfold Format.read;simp only [hs, hB, hI, hL];have e1 : b / 9223372036854775808 = 0 := Nat.div_eq_of_lt zO;have e2 : b % 9223372036854775808 = b := Nat.mod_eq_of_lt zO;rw [e1, e2];by_cases hb : b < 4503599627370496
  · rw [zp hb];exact ⟨b, 0, rfl, by unfold val; rw [zp hb]; simp⟩
  rw [zn hb, zp h];exact ⟨_, _, rfl, by unfold val; rw [zn hb]⟩
theorem read_inf : Ieee.double.read INF = .infinity false := rfl
theorem read_neg0 : Ieee.double.read 9223372036854775808 = .number true 0 (-1074) := rfl
theorem signed_false (m u : Nat) : signed false m u = ((m * 2 ^ u : Nat) : Int) := by
  unfold signed;simp [Nat.shiftLeft_eq]
theorem at_base (m i : Nat) (base : Int) (hb : base ≤ -1074 + i) (h0 : -1074 ≤ base) : m * 2 ^ i = (m * 2 ^ ((-1074 + (i : Int)) - base).toNat) * 2 ^ (base + 1074).toNat := by
  rw [Nat.mul_assoc, ← Nat.pow_add]
  congr 2
  omega
theorem order_fin {a b : Nat} (ha : a < INF) (hb : b < INF) : Ieee.double.order a b = some (compare a b) := by
  obtain ⟨m, i, hra, hva⟩ := read_fin ha;obtain ⟨n, j, hrb, hvb⟩ := read_fin hb;unfold Format.order;rw [hra, hrb];simp only [Datum.order, signed_false];have hbase : min (-1074 + (i : Int)) (-1074 + (j : Int)) ≤ -1074 + i ∧ min (-1074 + (i : Int)) (-1074 + (j : Int)) ≤ -1074 + j ∧ -1074 ≤ min (-1074 + (i : Int)) (-1074 + (j : Int)) := by omega
  generalize min (-1074 + (i : Int)) (-1074 + (j : Int)) = base at *;have e1 := at_base m i base hbase.1 hbase.2.2;have e2 := at_base n j base hbase.2.1 hbase.2.2;rw [← hva] at e1;rw [← hvb] at e2;generalize m * 2 ^ ((-1074 + (i : Int)) - base).toNat = x at *;generalize n * 2 ^ ((-1074 + (j : Int)) - base).toNat = y at *;have hp : 0 < 2 ^ (base + 1074).toNat := Nat.two_pow_pos _;generalize 2 ^ (base + 1074).toNat = p at *;have hlt : a < b ↔ x < y := by
    rw [← val_lt_iff ha hb, e1, e2];exact ⟨fun h => Nat.lt_of_mul_lt_mul_right h, fun h => Nat.mul_lt_mul_of_pos_right h hp⟩
  have hgt : b < a ↔ y < x := by
    rw [← val_lt_iff hb ha, e1, e2];exact ⟨fun h => Nat.lt_of_mul_lt_mul_right h, fun h => Nat.mul_lt_mul_of_pos_right h hp⟩
  congr 1
  rcases Nat.lt_trichotomy a b with h | h | h
  · rw [Nat.compare_eq_lt.2 h, Int.compare_eq_lt.2 (by have := hlt.1 h; omega)]
  · have : x = y := by omega
    rw [Nat.compare_eq_eq.2 h, Int.compare_eq_eq.2 zO]
  rw [Nat.compare_eq_gt.2 h, Int.compare_eq_gt.2 (by have := hgt.1 h; omega)]
theorem order_nn {a b : Nat} (ha : a ≤ INF) (hb : b ≤ INF) : Ieee.double.order a b = some (compare a b) := by
  by_cases h1 : a < INF
  · by_cases h2 : b < INF
    · exact order_fin h1 h2
    obtain rfl : b = INF := by omega
    obtain ⟨m, i, hra, _⟩ := read_fin h1;unfold Format.order;rw [hra, read_inf, Nat.compare_eq_lt.2 h1];rfl
  obtain rfl : a = INF := by omega
  by_cases h2 : b < INF
  · obtain ⟨m, i, hra, _⟩ := read_fin h2;unfold Format.order;rw [hra, read_inf, Nat.compare_eq_gt.2 h2];rfl
  obtain rfl : b = INF := by omega
  rw [Nat.compare_eq_eq.2 rfl];rfl
theorem add_fin {a b : Nat} (ha : a < INF) (hb : b < INF) : Ieee.double.add a b = some (rnd (val a + val b)) := by
  obtain ⟨m, i, hra, hva⟩ := read_fin ha;obtain ⟨n, j, hrb, hvb⟩ := read_fin hb;unfold Format.add;rw [hra, hrb];simp only [Datum.sum, signed_false, Option.map_some];have hbase : min (-1074 + (i : Int)) (-1074 + (j : Int)) ≤ -1074 + i ∧ min (-1074 + (i : Int)) (-1074 + (j : Int)) ≤ -1074 + j ∧ -1074 ≤ min (-1074 + (i : Int)) (-1074 + (j : Int)) := by omega
  generalize min (-1074 + (i : Int)) (-1074 + (j : Int)) = base at *;have e1 := at_base m i base hbase.1 hbase.2.2;have e2 := at_base n j base hbase.2.1 hbase.2.2;rw [← hva] at e1;rw [← hvb] at e2;generalize m * 2 ^ ((-1074 + (i : Int)) - base).toNat = x at *;generalize n * 2 ^ ((-1074 + (j : Int)) - base).toNat = y at *;have hs : (if (x : Int) + (y : Int) = 0 then (false && false) else decide ((x : Int) + (y : Int) < 0)) = false := by
    split
    · rfl
    exact zf zO
  have hn : ((x : Int) + (y : Int)).natAbs = x + y := by omega
  rw [hs, hn]
  congr 1
  show near (x + y) base = _
  rw [near_low (x + y) (base + 1074).toNat zO, e1, e2, Nat.add_mul]
theorem add_inf_l {b : Nat} (hb : b ≤ INF) : Ieee.double.add INF b = some INF := by
  by_cases h : b < INF
  · obtain ⟨m, i, hra, _⟩ := read_fin h;unfold Format.add;rw [hra, read_inf];rfl
  obtain rfl : b = INF := by omega
  rfl
theorem add_inf_r {a : Nat} (ha : a ≤ INF) : Ieee.double.add a INF = some INF := by
  by_cases h : a < INF
  · obtain ⟨m, i, hra, _⟩ := read_fin h;unfold Format.add;rw [hra, read_inf];rfl
  obtain rfl : a = INF := by omega
  rfl
def rnd2 (n : Nat) : Nat := near n (-2148)
theorem rnd2_mono {n n' : Nat} (h : n ≤ n') : rnd2 n ≤ rnd2 n' := near_mono h 1074
theorem mul_fin {a b : Nat} (ha : a < INF) (hb : b < INF) : Ieee.double.mul a b = some (rnd2 (val a * val b)) := by
  obtain ⟨m, i, hra, hva⟩ := read_fin ha;obtain ⟨n, j, hrb, hvb⟩ := read_fin hb;unfold Format.mul;rw [hra, hrb];simp only [Datum.product, Option.map_some]
  congr 1
  show near (m * n) (-1074 + (i : Int) + (-1074 + (j : Int))) = _
  unfold rnd2;rw [← near_scale (m * n) (i + j), hva, hvb]
  congr 1
  · rw [Nat.pow_add]; ac_rfl
  omega
theorem mul_inf_l {b : Nat} (hb : b < INF) (h0 : 0 < b) : Ieee.double.mul INF b = some INF := by
  obtain ⟨m, i, hra, hva⟩ := read_fin hb;have hm : m ≠ 0 := by
    intro h;subst h;rw [Nat.zero_mul] at hva;have := val_inj hb (show 0 < INF by decide) hva;omega
  unfold Format.mul;rw [hra, read_inf];simp only [Datum.product, hm, if_false];rfl
theorem mul_neg0 {b : Nat} (hb : b < INF) : Ieee.double.mul 9223372036854775808 b = some 9223372036854775808 := by
  obtain ⟨m, i, hra, hva⟩ := read_fin hb;unfold Format.mul;rw [hra, read_neg0];simp only [Datum.product, Nat.zero_mul];rfl
theorem order_neg0 {b : Nat} (hb : b ≤ INF) : Ieee.double.order 9223372036854775808 b = Ieee.double.order 0 b := by
  by_cases h : b < INF
  · obtain ⟨m, i, hra, _⟩ := read_fin h;unfold Format.order;rw [hra, read_neg0, show Ieee.double.read 0 = .number false 0 (-1074) from rfl];simp only [Datum.order, signed];simp
  obtain rfl : b = INF := by omega
  rfl
def NEG0 : Nat := 9223372036854775808
theorem read_neg {w : Nat} (h1 : 9223372036854775808 ≤ w) (h2 : w < 18446744073709551616) : (∃ m e, Ieee.double.read w = .number true m e ∧ (m = 0 → w = 9223372036854775808)) ∨ Ieee.double.read w = .infinity true ∨ ∃ fr, Ieee.double.read w = .nan true fr := by
  have hs : Ieee.double.signWeight = 9223372036854775808 := rfl;have hB : Ieee.double.binade = 4503599627370496 := rfl;have hI : Ieee.double.infRung = 9218868437227405312 := rfl;unfold Format.read;simp only [hs, hB, hI];have e1 : w / 9223372036854775808 = 1 := by omega
  have e2 : w % 9223372036854775808 = w - 9223372036854775808 := by omega
  rw [e1, e2];by_cases hb : w - 9223372036854775808 < 4503599627370496
  · rw [zp hb];exact Or.inl ⟨_, _, rfl, fun h => by omega⟩
  rw [zn hb];by_cases hc : w - 9223372036854775808 < 9218868437227405312
  · rw [zp hc];exact Or.inl ⟨_, _, rfl, fun h => by omega⟩
  rw [zn hc];by_cases hd : w - 9223372036854775808 = 9218868437227405312
  · rw [zp hd]; exact Or.inr (Or.inl rfl)
  rw [zn hd]; exact Or.inr (Or.inr ⟨_, rfl⟩)
theorem read_nan {w : Nat} (h1 : INF < w) (h2 : w < 9223372036854775808) : ∃ fr, Ieee.double.read w = .nan false fr := by
  unfold INF at h1;have hs : Ieee.double.signWeight = 9223372036854775808 := rfl;have hB : Ieee.double.binade = 4503599627370496 := rfl;have hI : Ieee.double.infRung = 9218868437227405312 := rfl;unfold Format.read;simp only [hs, hB, hI];have e1 : w / 9223372036854775808 = 0 := Nat.div_eq_of_lt h2;have e2 : w % 9223372036854775808 = w := Nat.mod_eq_of_lt h2;rw [e1, e2, zn zO, zn zO, zn zO];exact ⟨_, rfl⟩
theorem signed_true (m u : Nat) : signed true m u = -((m * 2 ^ u : Nat) : Int) := by
  unfold signed;simp [Nat.shiftLeft_eq]
theorem order_other {w b : Nat} (h1 : INF < w) (h2 : w < 18446744073709551616) (hb : b ≤ INF) : Ieee.double.order w b = none ∨ (Ieee.double.order w b = some .lt ∧ Ieee.double.order b w = some .gt) ∨ w = NEG0 := by
  by_cases hn : w < 9223372036854775808
  · obtain ⟨fr, hr⟩ := read_nan h1 hn;unfold Format.order;rw [hr];cases Ieee.double.read b <;> exact Or.inl rfl
  rcases read_neg zO h2 with ⟨m, e, hr, hm⟩ | hr | ⟨fr, hr⟩
  · by_cases h0 : m = 0
    · exact Or.inr (Or.inr (hm h0))
    refine Or.inr (Or.inl ?_);unfold Format.order;rw [hr];by_cases hf : b < INF;rotate_left
    · obtain rfl : b = INF := by omega
      rw [read_inf];exact ⟨rfl, rfl⟩
    obtain ⟨n, j, hrb, _⟩ := read_fin hf;rw [hrb];simp only [Datum.order, signed_false, signed_true];have hp : ∀ u, 0 < m * 2 ^ u := fun u => Nat.mul_pos zO (Nat.two_pow_pos _)
    constructor
    · congr 1
      rw [Int.compare_eq_lt];have := hp (e - min e (-1074 + (j : Int))).toNat
      omega
    congr 1
    rw [Int.compare_eq_gt];have := hp (e - min (-1074 + (j : Int)) e).toNat
    omega
  · refine Or.inr (Or.inl ?_);unfold Format.order;rw [hr];by_cases hf : b < INF
    · obtain ⟨n, j, hrb, _⟩ := read_fin hf;rw [hrb];exact ⟨rfl, rfl⟩
    obtain rfl : b = INF := by omega
    rw [read_inf];exact ⟨rfl, rfl⟩
  unfold Format.order;rw [hr];cases Ieee.double.read b <;> exact Or.inl rfl
theorem zero_le : (0 : Nat) ≤ INF := Nat.zero_le _
theorem gt0 {w : Nat} (h : w < 18446744073709551616) : Ieee.double.order w 0 = some .gt ↔ 0 < w ∧ w ≤ INF := by
  by_cases h1 : w ≤ INF
  · rw [order_nn h1 zero_le]
    constructor
    · intro e;injection e with e
      exact ⟨Nat.compare_eq_gt.1 e, h1⟩
    intro e; rw [Nat.compare_eq_gt.2 e.1]
  constructor
  · intro e
    rcases order_other zO h zero_le with g | ⟨g, _⟩ | g
    · rw [g] at e; cases e
    · rw [g] at e; cases e
    subst g;rw [show NEG0 = 9223372036854775808 from rfl, order_neg0 zero_le, order_nn zero_le zero_le] at e;cases e
  intro e; omega
def eff (d : Nat) : Nat := if d ≤ INF then d else 0
theorem geq0 {w : Nat} (h : w < 18446744073709551616) : (Ieee.double.order w 0 = some .gt ∨ Ieee.double.order w 0 = some .eq) ↔ (w ≤ INF ∨ w = NEG0) := by
  by_cases h1 : w ≤ INF
  · rw [order_nn h1 zero_le];refine ⟨fun _ => Or.inl h1, fun _ => ?_⟩
    rcases Nat.eq_zero_or_pos w with e | e
    · subst e; exact Or.inr rfl
    exact Or.inl (by rw [Nat.compare_eq_gt.2 e])
  constructor
  · intro e
    rcases order_other zO h zero_le with g | ⟨g, _⟩ | g
    · rw [g] at e; rcases e with e | e <;> cases e
    · rw [g] at e; rcases e with e | e <;> cases e
    exact Or.inr g
  rintro (e | e)
  · omega
  subst e;rw [show NEG0 = 9223372036854775808 from rfl, order_neg0 zero_le, order_nn zero_le zero_le];exact Or.inr rfl
theorem mul_mono {a a' b : Nat} (h : a ≤ a') (ha : a' < INF) : rnd2 (val a * val b) ≤ rnd2 (val a' * val b) := rnd2_mono (Nat.mul_le_mul_right _ (val_mono zO ha h))
theorem add_mono {a a' b b' : Nat} (h : a ≤ a') (h' : b ≤ b') (ha : a' < INF) (hb : b' < INF) : rnd (val a + val b) ≤ rnd (val a' + val b') := rnd_mono (Nat.add_le_add (val_mono zO ha h) (val_mono zO hb h'))
theorem pow_split (q : Nat) : 4503599627370496 * 2 ^ q = 2 ^ (52 + q) := by rw [Nat.pow_add]
theorem val_pow (b : Nat) (hb : ¬ b < 4503599627370496) (hm : b % 4503599627370496 = 0) : ∃ e : Nat, e = 52 + (b / 4503599627370496 - 1) ∧ val b = 2 ^ e := by
  refine ⟨_, rfl, ?_⟩;unfold val;rw [zn hb, hm, Nat.add_zero, pow_split]
theorem val_one : ∃ e : Nat, e = 1074 ∧ val 4607182418800017408 = 2 ^ e := by
  obtain ⟨e, he, hv⟩ := val_pow 4607182418800017408 (by decide) (by decide);exact ⟨e, he.trans (by decide), hv⟩
theorem mul_one {a : Nat} (h : a < INF) : rnd2 (val a * val 4607182418800017408) = a := by
  obtain ⟨e, he, hv⟩ := val_one;rw [hv];have := near_scale (val a) e (-1074);unfold rnd2;rw [show (-2148 : Int) = -1074 - (e : Int) by omega, this];exact rnd_val h
end Go.Proofs.YtahaihnlkohhgaaGreatDoor.FL
end
section
namespace Go.Proofs.YtahaihnlkohhgaaGreatDoor.PP
open Go.RowKit Go.Proofs.YtahaihnlkohhgaaGreatDoor.S Go.Proofs.YtahaihnlkohhgaaGreatDoorW.PrintWords Go.Proofs.YtahaihnlkohhgaaGreatDoorW.PrintLast Go.Proofs.YtahaihnlkohhgaaGreatDoorW.PrintMore Go.Proofs.YtahaihnlkohhgaaGreatDoor.FL
abbrev ONE : Nat := 4607182418800017408
abbrev TH : Nat := 4562146422526312448
theorem one_lt : ONE < INF := by decide
theorem th_lt : TH < INF := by decide
theorem one_pos : 0 < ONE := by decide
def addS (s c : Nat) : Nat := if s < INF then (if c < INF then rnd (val s + val c) else INF) else INF
def prodS (d a : Nat) : Nat := if d < INF then rnd2 (val d * val a) else INF
theorem addS_is {s c : Nat} (hs : s ≤ INF) (hc : c ≤ INF) : faddOk s c = true ∧ fadd s c = addS s c := by
  unfold faddOk fadd addS;by_cases h1 : s < INF
  · by_cases h2 : c < INF
    · rw [add_fin h1 h2, zp h1, zp h2]; exact ⟨rfl, rfl⟩
    obtain rfl : c = INF := by omega
    rw [add_inf_r hs, zp h1, zn h2]; exact ⟨rfl, rfl⟩
  obtain rfl : s = INF := by omega
  rw [add_inf_l hc, zn h1]; exact ⟨rfl, rfl⟩
theorem addS_le (s c : Nat) : addS s c ≤ INF := by
  unfold addS
  split
  · split
    · exact rnd_le _
    exact zh _
  exact zh _
theorem addS_mono {s s' c c' : Nat} (h : s ≤ s') (h' : c ≤ c') : addS s c ≤ addS s' c' := by
  by_cases h1 : s' < INF
  · by_cases h2 : c' < INF
    · unfold addS;rw [zp zO, zp zO, zp h1, zp h2];exact add_mono h h' h1 h2
    have : addS s' c' = INF := by unfold addS; rw [zp h1, zn h2]
    rw [this]; exact addS_le _ _
  have : addS s' c' = INF := by unfold addS; rw [zn h1]
  rw [this]; exact addS_le _ _
theorem addS_zero {s : Nat} (hs : s ≤ INF) : addS s 0 = s := by
  unfold addS;by_cases h : s < INF
  · rw [zp h, zp (by decide), val_zero, Nat.add_zero, rnd_val h]
  rw [zn h]; omega
theorem zero_addS {s : Nat} (hs : s ≤ INF) : addS 0 s = s := by
  unfold addS;by_cases h : s < INF
  · rw [zp (by decide), zp h, val_zero, Nat.zero_add, rnd_val h]
  rw [zp (by decide), zn h]; omega
theorem le_addS_l {s : Nat} (c : Nat) (hs : s ≤ INF) : s ≤ addS s c := by
  have := addS_mono (zh s) (Nat.zero_le c);rw [addS_zero hs] at this;exact this
theorem le_addS_r (s : Nat) {c : Nat} (hc : c ≤ INF) : c ≤ addS s c := by
  have := addS_mono (Nat.zero_le s) (zh c);rw [zero_addS hc] at this;exact this
theorem prodS_is {d a : Nat} (hd : d ≤ INF) (ha : a < INF) (h0 : 0 < a) : fmulOk d a = true ∧ fmul d a = prodS d a := by
  unfold fmulOk fmul prodS;by_cases h1 : d < INF
  · rw [mul_fin h1 ha, zp h1]; exact ⟨rfl, rfl⟩
  obtain rfl : d = INF := by omega
  rw [mul_inf_l ha h0, zn h1]; exact ⟨rfl, rfl⟩
theorem prodS_le (d a : Nat) : prodS d a ≤ INF := by
  unfold prodS
  split
  · exact near_le _ _
  exact zh _
theorem fgtr_is {w : Nat} (h : w < 18446744073709551616) : fgtr w 0 = decide (0 < w ∧ w ≤ INF) := by
  unfold fgtr;rw [Bool.eq_iff_iff, beq_iff_eq, decide_eq_true_eq];exact gt0 h
theorem flss_is {a b : Nat} (ha : a ≤ INF) (hb : b ≤ INF) : flss a b = decide (a < b) := by
  unfold flss;rw [Bool.eq_iff_iff, beq_iff_eq, decide_eq_true_eq, order_nn ha hb]
  constructor
  · intro h; injection h with h; exact Nat.compare_eq_lt.1 h
  intro h; rw [Nat.compare_eq_lt.2 h]
theorem fgtr_nn {a b : Nat} (ha : a ≤ INF) (hb : b ≤ INF) : fgtr a b = decide (b < a) := by
  unfold fgtr;rw [Bool.eq_iff_iff, beq_iff_eq, decide_eq_true_eq, order_nn ha hb]
  constructor
  · intro h; injection h with h; exact Nat.compare_eq_gt.1 h
  intro h; rw [Nat.compare_eq_gt.2 h]
theorem isInf_is {s : Nat} (hs : s ≤ INF) : math_IsInf.f s 1 = some (decide (s = INF)) := by
  unfold math_IsInf.f;rw [zn zO, zn zO, fgtr_nn hs (by decide)]
  congr 1
  rw [decide_eq_decide];unfold INF at *;omega
def cntW (t w : Nat) : Nat := if 0 < w ∧ w < INF then rnd2 (val w * val t) else 0
theorem cntW_le (t w : Nat) : cntW t w ≤ INF := by
  unfold cntW
  split
  · exact near_le _ _
  exact Nat.zero_le _
theorem counts_is {t w : Nat} (ht : t < INF) (hw : w < 18446744073709551616) : plane_counts.f w t = some (cntW t w) := by
  unfold plane_counts.f cntW;rw [fgtr_is hw];by_cases h1 : 0 < w ∧ w ≤ INF
  · rw [zt h1, zp rfl, isInf_is h1.2];by_cases h2 : w = INF
    · have e : ¬ (0 < w ∧ w < INF) := by omega
      rw [zt h2, zn e];rfl
    have e : 0 < w ∧ w < INF := by omega
    rw [zf h2, zp e];unfold fmulOk fmul;rw [mul_fin e.2 ht];rfl
  have e : ¬ (0 < w ∧ w < INF) := by omega
  rw [zf h1, zn e];rfl
def sumAt (t : Nat) (l : List S41) : Nat := l.foldl (fun s x => addS s (cntW t x.f1)) 0
theorem sumAt_le (t : Nat) (l : List S41) : sumAt t l ≤ INF := by
  unfold sumAt;have : ∀ (l : List S41) (s : Nat), s ≤ INF → l.foldl (fun s x => addS s (cntW t x.f1)) s ≤ INF := by
    intro l
    induction l with
    | nil => intro s hs; exact hs
    | cons x l ih => intro s _; exact ih _ (addS_le _ _)
  exact this l 0 (Nat.zero_le _)
def sumsL (t : Nat) (l : List S41) : List Nat := (List.range l.length).map (fun i => sumAt t (l.take (i + 1)))
theorem rd44_drop {l : List S41} {i : Nat} (h : i < l.length) : l.drop i = rd_T41 l (i : Int) :: l.drop (i + 1) := by
  rw [List.drop_eq_getElem_cons h];simp [rd_T41, List.getD_eq_getElem?_getD, zr h]
theorem rd44_take {l : List S41} {i : Nat} (h : i < l.length) : l.take (i + 1) = l.take i ++ [rd_T41 l (i : Int)] := by
  rw [List.take_add_one, zr h];simp [rd_T41, List.getD_eq_getElem?_getD, zr h]
theorem rd44_mem {l : List S41} {i : Nat} (h : i < l.length) : rd_T41 l (i : Int) ∈ l := List.mem_of_mem_drop (i := i) (by rw [rd44_drop h]; exact List.mem_cons_self)
theorem sumAt_step (t : Nat) {l : List S41} {i : Nat} (h : i < l.length) : sumAt t (l.take (i + 1)) = addS (sumAt t (l.take i)) (cntW t (rd_T41 l (i : Int)).f1) := by
  rw [rd44_take h];unfold sumAt;rw [List.foldl_append];rfl
theorem sums_is {t : Nat} (ht : t < INF) (l : List S41) (hl : l.length ≤ 200) (hw : ∀ y ∈ l, y.f1 < 18446744073709551616) : Ev (fun k => plane_sums.f k l t) (sumsL t l) := by
  unfold plane_sums.f;refine Ev.pos zO (Ev.pos (by rw [Int.toNat_natCast]; omega) ?_);rw [Int.toNat_natCast];have loop : ∀ (d i : Nat), i + d = l.length → Ev (fun k => plane_sums.l0 k t ((sumsL t l).take i ++ List.replicate d 0) (sumAt t (l.take i)) l (l.length : Int) (i : Int)) (sumsL t l) := by
    intro d
    induction d with
    | zero =>
      intro i hi;refine Ev.step (fun k => by simp only [plane_sums.l0]; rfl) (Ev.neg zO (Ev.ret ?_));rw [List.take_of_length_le (by unfold sumsL; rw [List.length_map, List.length_range]; omega)];simp
    | succ d ih =>
      intro i hi;have h1 : i < l.length := by omega
      obtain ⟨a1, a2⟩ := addS_is (sumAt_le t (l.take i)) (cntW_le t (rd_T41 l (i : Int)).f1);have hsl : (sumsL t l).length = l.length := by unfold sumsL; rw [List.length_map, List.length_range]
      have hlen : ((sumsL t l).take i ++ List.replicate (d + 1) 0).length = l.length := by
        rw [List.length_append, List.length_take, List.length_replicate]; omega
      refine Ev.step (fun k => by simp only [plane_sums.l0]; rfl) (Ev.pos zO (Ev.pos zO (Ev.pos zO (Ev.call (counts_is ht (hw _ (rd44_mem h1))) (Ev.pos a1 ?_)))));refine Ev.pos (by rw [hlen]; omega) ?_;have hw : wrap64 ((i : Int) + 1) = ((i + 1 : Nat) : Int) := by unfold wrap64; omega
      rw [a2, ← sumAt_step t h1, hw, Int.toNat_natCast];have e : ((sumsL t l).take i ++ List.replicate (d + 1) 0).set i (sumAt t (l.take (i + 1))) = (sumsL t l).take (i + 1) ++ List.replicate d 0 := by
        have h2 : (sumsL t l)[i]? = some (sumAt t (l.take (i + 1))) := by
          unfold sumsL;rw [List.getElem?_map, List.getElem?_range h1];rfl
        have h3 : (sumsL t l).take (i + 1) = (sumsL t l).take i ++ [sumAt t (l.take (i + 1))] := by
          rw [List.take_add_one (l := sumsL t l), h2];rfl
        rw [List.set_append_right _ _ (by rw [List.length_take]; omega), h3];rw [show i - ((sumsL t l).take i).length = 0 by rw [List.length_take]; omega];simp [List.replicate_succ]
      rw [e];exact ih (i + 1) zO
  exact loop l.length 0 zO
def pick (t : Nat) (S : Nat → Nat) (d x : Nat) : List S41 → Nat → Nat → Nat
  | [], _, last => last
  | y :: l, i, last => if 0 < cntW t y.f1 then (if d < ONE ∧ x < S i then i else pick t S d x l (i + 1) i) else pick t S d x l (i + 1) last
theorem pick_is {t : Nat} (ht : t < INF) (l : List S41) (hl : l.length ≤ 200) (hw : ∀ y ∈ l, y.f1 < 18446744073709551616) {D X d x : Nat} (hD : flss D ONE = decide (d < ONE)) (hX : ∀ s, s ≤ INF → flss X s = decide (x < s)) : ∀ (n i : Nat), i + n = l.length → ∀ last : Nat,
    Ev (fun k => plane_Weigh.l0 k D (sumsL t l) t (last : Int) X l (l.length : Int) (i : Int)) ((pick t (fun i => sumAt t (l.take (i + 1))) d x (l.drop i) i last : Int), true) := by
  intro n
  induction n with
  | zero =>
    intro i hi last;refine Ev.step (fun k => by simp only [plane_Weigh.l0]; rfl) (Ev.neg zO (Ev.ret ?_));rw [List.drop_eq_nil_of_le zO];rfl
  | succ n ih =>
    intro i hi last;have h1 : i < l.length := by omega
    have hst : wrap64 ((i : Int) + 1) = ((i + 1 : Nat) : Int) := by unfold wrap64; omega
    have hsl : (sumsL t l).length = l.length := by unfold sumsL; rw [List.length_map, List.length_range]
    have hrd : rdOf 0 (sumsL t l) (i : Int) = sumAt t (l.take (i + 1)) := by
      unfold rdOf sumsL;rw [Int.toNat_natCast, List.getD_eq_getElem?_getD, List.getElem?_map, List.getElem?_range h1];rfl
    refine Ev.step (fun k => by simp only [plane_Weigh.l0]; rfl) (Ev.pos zO (Ev.pos zO (Ev.pos zO (Ev.call (counts_is ht (hw _ (rd44_mem h1))) ?_))));rw [hst, hrd, rd44_drop h1, hD, hX _ (sumAt_le _ _)];generalize hc : cntW t (rd_T41 l (i : Int)).f1 = c;have hcl : c ≤ INF := by rw [← hc]; exact cntW_le _ _
    rw [fgtr_nn hcl (Nat.zero_le _)];simp only [pick, hc];by_cases h2 : 0 < c;rotate_left
    · rw [zn h2];exact Ev.neg (by simp only [decide_eq_true_eq]; exact h2) (ih (i + 1) zO last)
    rw [zp h2];refine Ev.pos (zt h2) ?_;by_cases h3 : d < ONE
    · refine Ev.pos (zt h3) (Ev.pos (by rw [hsl]; omega) ?_);by_cases h4 : x < sumAt t (l.take (i + 1))
      · rw [zp ⟨h3, h4⟩];exact Ev.pos (zt h4) (Ev.ret rfl)
      rw [zn (fun h => h4 h.2)];exact Ev.neg (by simp [h4]) (ih (i + 1) zO i)
    rw [zn (fun h => h3 h.1)];exact Ev.neg (by simp only [decide_eq_true_eq]; exact h3) (ih (i + 1) zO i)
def TT (l : List S41) : Nat := if sumAt ONE l = INF then TH else ONE
def allW (l : List S41) : Nat := sumAt (TT l) l
theorem TT_lt (l : List S41) : TT l < INF := by unfold TT; split; exact th_lt; exact one_lt
theorem fold_bound (t B : Nat) : ∀ (l : List S41) (s s' : Nat), s ≤ s' → (∀ y ∈ l, cntW t y.f1 ≤ B) → ∀ n, l.length ≤ n → s' ≤ INF → l.foldl (fun s x => addS s (cntW t x.f1)) s ≤ (List.range n).foldl (fun s _ => addS s B) s'
  | [], s, s', h, _, n, _, h' => by
    have : ∀ (l : List Nat) (s' : Nat), s ≤ s' → s' ≤ INF → s ≤ l.foldl (fun s _ => addS s B) s' := by
      intro l
      induction l with
      | nil => intro s' h _; exact h
      | cons x l ih => intro s' h h'; exact ih _ (Nat.le_trans h (le_addS_l B h')) (addS_le _ _)
    exact this _ _ h h'
  | y :: l, s, s', h, hB, n, hn, h' => by
    obtain ⟨m, rfl⟩ : ∃ m, n = m + 1 := ⟨n - 1, by simp at hn; omega⟩;rw [List.range_succ_eq_map, List.foldl_cons, List.foldl_cons, List.foldl_map];exact fold_bound t B l _ _ (addS_mono h (hB y List.mem_cons_self)) (fun z hz => hB z (List.mem_cons_of_mem _ hz)) m (by simpa using hn) (addS_le _ _)
theorem great_sum : (List.range 200).foldl (fun s _ => addS s (cntW TH 9218868437227405311)) 0 < INF := by decide +kernel
theorem small_sum : (List.range 200).foldl (fun s _ => addS s 103582791429521408) 0 < INF := by decide +kernel
theorem small_pos : 0 < rnd2 (val 103582791429521408 * val TH) := by decide +kernel
theorem cntW_great (w : Nat) : cntW TH w ≤ cntW TH 9218868437227405311 := by
  have e : cntW TH 9218868437227405311 = rnd2 (val 9218868437227405311 * val TH) := zp (by decide);rw [e];unfold cntW
  split
  · rename_i h
    unfold INF at h;exact mul_mono zO (by decide)
  exact Nat.zero_le _
theorem allW_lt (l : List S41) (hl : l.length ≤ 200) : allW l < INF := by
  unfold allW TT
  split
  · exact Nat.lt_of_le_of_lt (fold_bound TH _ l 0 0 (zh _) (fun y _ => cntW_great y.f1) 200 hl (Nat.zero_le _)) great_sum
  rename_i h
  have := sumAt_le ONE l;omega
theorem fold_ge (t : Nat) : ∀ (l : List S41) (s : Nat), s ≤ INF → s ≤ l.foldl (fun s x => addS s (cntW t x.f1)) s ∧ ∀ y ∈ l, cntW t y.f1 ≤ l.foldl (fun s x => addS s (cntW t x.f1)) s
  | [], s, _ => ⟨zh _, by simp⟩
  | y :: l, s, hs => by
    obtain ⟨i1, i2⟩ := fold_ge t l (addS s (cntW t y.f1)) (addS_le _ _);rw [List.foldl_cons];refine ⟨Nat.le_trans (le_addS_l _ hs) i1, fun z hz => ?_⟩
    rcases List.mem_cons.1 hz with rfl | hz
    · exact Nat.le_trans (le_addS_r _ (cntW_le _ _)) i1
    exact i2 z hz
theorem sum_ge (t : Nat) (l : List S41) {y : S41} (hy : y ∈ l) : cntW t y.f1 ≤ sumAt t l := (fold_ge t l 0 (Nat.zero_le _)).2 y hy
theorem sum_zero (t : Nat) : ∀ (l : List S41), (∀ y ∈ l, cntW t y.f1 = 0) → sumAt t l = 0 := by
  unfold sumAt;intro l
  induction l with
  | nil => intro _; rfl
  | cons y l ih =>
    intro h;rw [List.foldl_cons, h y List.mem_cons_self, addS_zero (Nat.zero_le _)];exact ih (fun z hz => h z (List.mem_cons_of_mem _ hz))
theorem cntW_one {w : Nat} (h0 : 0 < w) (h : w < INF) : cntW ONE w = w := by
  unfold cntW;rw [zp ⟨h0, h⟩];exact FL.mul_one h
theorem cntW_pos {t w : Nat} (h : 0 < cntW t w) : 0 < w ∧ w < INF := by
  unfold cntW at h
  split at h
  · assumption
  omega
theorem all_pos (l : List S41) (hl : l.length ≤ 200) : 0 < allW l ↔ ∃ y ∈ l, 0 < y.f1 ∧ y.f1 < INF := by
  constructor
  · intro h
    rcases Classical.em (∃ y ∈ l, 0 < cntW (TT l) y.f1) with ⟨y, hy, hc⟩ | hn
    · exact ⟨y, hy, cntW_pos hc⟩
    exfalso
    have : allW l = 0 := sum_zero _ l (fun y hy => by
      rcases Nat.eq_zero_or_pos (cntW (TT l) y.f1) with e | e
      · exact e
      exact absurd ⟨y, hy, e⟩ hn)
    omega
  rintro ⟨y, hy, h0, h1⟩;unfold allW TT
  split
  rotate_left
  · have := sum_ge ONE l hy;rw [cntW_one h0 h1] at this;omega
  rename_i hI
  rcases Nat.eq_zero_or_pos (sumAt TH l) with e | e
  rotate_left
  · exact e
  exfalso
  have hb : ∀ z ∈ l, cntW ONE z.f1 ≤ 103582791429521408 := by
    intro z hz;have h3 := sum_ge TH l hz;by_cases h4 : 0 < z.f1 ∧ z.f1 < INF
    · rw [cntW_one h4.1 h4.2]
      rcases Nat.lt_or_ge z.f1 103582791429521408 with h5 | h5
      · omega
      exfalso
      have h6 : rnd2 (val 103582791429521408 * val TH) ≤ rnd2 (val z.f1 * val TH) := mul_mono h5 h4.2;have h7 : cntW TH z.f1 = rnd2 (val z.f1 * val TH) := zp h4;have := small_pos;omega
    have : cntW ONE z.f1 = 0 := zn h4;omega
  have := fold_bound ONE _ l 0 0 (zh _) hb 200 hl (Nat.zero_le _);have h2 := small_sum;have h3 : sumAt ONE l = l.foldl (fun s x => addS s (cntW ONE x.f1)) 0 := rfl;omega
def weighF (l : List S41) (d : Nat) : Int × Bool := if 0 < allW l then ((pick (TT l) (fun i => sumAt (TT l) (l.take (i + 1))) (eff d) (prodS (eff d) (allW l)) l 0 0 : Int), true) else (0, false)
theorem last_is' (t : Nat) (l : List S41) (h : 0 < l.length) : rdOf 0 (sumsL t l) (((l.length - 1 : Nat) : Int)) = sumAt t l := by
  unfold rdOf sumsL;rw [Int.toNat_natCast, List.getD_eq_getElem?_getD, List.getElem?_map, List.getElem?_range zO];simp only [Option.map_some, Option.getD_some];rw [List.take_of_length_le zO]
theorem Weigh_is (l : List S41) (hl : l.length ≤ 200) (hw : ∀ y ∈ l, y.f1 < 18446744073709551616) (d : Nat) (hd : d < 18446744073709551616) : Ev (fun k => plane_Weigh.f k l d) (weighF l d) := by
  unfold plane_Weigh.f;by_cases h0 : l.length = 0
  · refine Ev.pos zO (Ev.ret ?_);have : l = [] := List.length_eq_zero_iff.1 h0;subst this;unfold weighF allW;rw [zn (by rw [show sumAt (TT []) [] = 0 from rfl]; omega)]
  have hp : 0 < l.length := by omega
  have hsl : ∀ t, (sumsL t l).length = l.length := fun t => by unfold sumsL; rw [List.length_map, List.length_range]
  have hlast : wrap64 ((l.length : Int) - 1) = ((l.length - 1 : Nat) : Int) := by unfold wrap64; omega
  have rest : Ev (fun k => plane_Weigh.j0 k l d (sumsL (TT l) l) (TT l)) (weighF l d) := by
    refine Ev.step (fun k => by simp only [plane_Weigh.j0]; rfl) ?_;rw [hsl, hlast, last_is' _ l hp];refine Ev.pos zO (Ev.pos zO ?_);have hal := allW_lt l hl
    show Ev (fun k => if fgtr (allW l) 0 = true then _ else _) _
    rw [fgtr_nn (Nat.le_of_lt hal) (Nat.zero_le _)];by_cases h1 : 0 < allW l;rotate_left
    · unfold weighF;rw [zn h1];exact Ev.neg (by simp only [decide_eq_true_eq]; exact h1) (Ev.ret rfl)
    refine Ev.pos (zt h1) ?_;unfold weighF;rw [zp h1];have go : ∀ D, D ≤ INF → D = eff d → Ev (fun k => plane_Weigh.j1 k l D (sumsL (TT l) l) (TT l) (allW l)) ((pick (TT l) (fun i => sumAt (TT l) (l.take (i + 1))) (eff d) (prodS (eff d) (allW l)) l 0 0 : Int), true) := by
      intro D hD he;rw [← he];obtain ⟨m1, m2⟩ := prodS_is hD hal h1;refine Ev.step (fun k => by simp only [plane_Weigh.j1]; rfl) (Ev.pos m1 ?_);rw [m2];exact pick_is (TT_lt l) l hl hw (flss_is hD (Nat.le_of_lt one_lt)) (fun s hs => flss_is (prodS_le _ _) hs) l.length 0 zO 0
    have hge : fgeq d 0 = true ↔ (d ≤ INF ∨ d = NEG0) := by
      unfold fgeq;rw [Bool.or_eq_true, beq_iff_eq, beq_iff_eq];exact geq0 hd
    by_cases h2 : fgeq d 0 = true;rotate_left
    · refine Ev.neg h2 ?_;refine go 0 (Nat.zero_le _) ?_;unfold eff;rw [zn (fun h => h2 (hge.2 (Or.inl h)))]
    refine Ev.pos h2 ?_
    rcases hge.1 h2 with h3 | h3
    · exact go d h3 (by unfold eff; rw [zp h3])
    subst h3;have e0 : eff NEG0 = 0 := zn (by decide);rw [e0];have hm : fmulOk NEG0 (allW l) = true ∧ fmul NEG0 (allW l) = NEG0 := by
      unfold fmulOk fmul;rw [show NEG0 = 9223372036854775808 from rfl, mul_neg0 hal];exact ⟨rfl, rfl⟩
    refine Ev.step (fun k => by simp only [plane_Weigh.j1]; rfl) (Ev.pos hm.1 ?_);rw [show fmul NEG0 (sumAt (TT l) l) = NEG0 from hm.2];have hp0 : prodS 0 (allW l) = 0 := by
      unfold prodS;rw [zp (by decide), val_zero, Nat.zero_mul];exact near_zero _
    rw [hp0];have hl0 : ∀ s, s ≤ INF → flss NEG0 s = decide (0 < s) := by
      intro s hs;have := flss_is (Nat.zero_le _) hs;rw [← this];unfold flss;rw [show NEG0 = 9223372036854775808 from rfl, order_neg0 hs]
    exact pick_is (TT_lt l) l hl hw (hl0 _ (Nat.le_of_lt one_lt)) hl0 l.length 0 zO 0
  refine Ev.neg zO (Ev.bind (sums_is one_lt l hl hw) ?_);rw [hsl, hlast, last_is' _ l hp];refine Ev.pos zO (Ev.pos zO (Ev.call (isInf_is (sumAt_le _ _)) ?_));by_cases h1 : sumAt ONE l = INF
  · refine Ev.pos (zt h1) (Ev.bind (sums_is th_lt l hl hw) ?_);have : TT l = TH := by unfold TT; rw [zp h1]
    rw [this] at rest;exact rest
  have : TT l = ONE := by unfold TT; rw [zn h1]
  rw [this] at rest;exact Ev.neg (by simp only [decide_eq_true_eq]; exact h1) rest
def cntR (w : Nat) : Nat := if w < INF then w else 0
theorem rweight_is (w : Nat) : tollgateref08_Weight.f w = some (decide (w < INF)) := by
  unfold tollgateref08_Weight.f;have e : decide ((w : Int) < 9218868437227405312) = decide (w < INF) := by
    rw [decide_eq_decide];unfold INF;omega
  rw [e]
theorem rcounts_is (w : Nat) : tollgateref10_counts.f w = some (cntR w) := by
  unfold tollgateref10_counts.f;rw [rweight_is];unfold cntR;by_cases h : w < INF
  · rw [zp h, zt h];rfl
  rw [zn h, zf h];rfl
theorem rmul_is {t w : Nat} (ht : t < INF) : fmulOk (cntR w) t = true ∧ fmul (cntR w) t = cntW t w := by
  have hc : cntR w < INF := by
    unfold cntR
    split
    · assumption
    decide
  unfold fmulOk fmul;rw [mul_fin hc ht];refine ⟨rfl, ?_⟩
  show rnd2 (val (cntR w) * val t) = _
  unfold cntW cntR;by_cases h1 : w < INF
  · rw [zp h1];by_cases h2 : 0 < w
    · rw [zp ⟨h2, h1⟩]
    have : w = 0 := by omega
    subst this;rw [zn (fun h => h2 h.1), val_zero, Nat.zero_mul];exact near_zero _
  rw [zn h1, zn (fun h => h1 h.2), val_zero, Nat.zero_mul];exact near_zero _
theorem rsum_is {t : Nat} (ht : t < INF) (l : List S41) (hl : l.length ≤ 200) (n : Nat) (hn : n ≤ l.length) : Ev (fun k => tollgateref10_sum.f k l (n : Int) t) (sumAt t (l.take n)) := by
  unfold tollgateref10_sum.f;have loop : ∀ (d i : Nat), i + d = n → Ev (fun k => tollgateref10_sum.l0 k l (n : Int) t (sumAt t (l.take i)) (i : Int)) (sumAt t (l.take n)) := by
    intro d
    induction d with
    | zero =>
      intro i hi;have : i = n := by omega
      subst this;exact Ev.step (fun k => by simp only [tollgateref10_sum.l0]; rfl) (Ev.neg zO (Ev.ret rfl))
    | succ d ih =>
      intro i hi;have h1 : i < l.length := by omega
      obtain ⟨m1, m2⟩ := rmul_is (w := (rd_T41 l (i : Int)).f1) ht;obtain ⟨a1, a2⟩ := addS_is (sumAt_le t (l.take i)) (cntW_le t (rd_T41 l (i : Int)).f1);refine Ev.step (fun k => by simp only [tollgateref10_sum.l0]; rfl) (Ev.pos zO (Ev.pos zO (Ev.pos zO (Ev.call (rcounts_is _) ?_))));refine Ev.pos m1 ?_;rw [m2];refine Ev.pos a1 ?_;have hw : wrap64 ((i : Int) + 1) = ((i + 1 : Nat) : Int) := by clear m1 m2 a1 a2; unfold wrap64; omega
      rw [a2, ← sumAt_step t h1, hw];clear hw;exact ih (i + 1) zO
  exact loop n 0 zO
theorem fsubN_is {a : Nat} (ha : a ≤ INF) : fsubN a = decide (a = INF) := by
  unfold fsubN;by_cases h : a < INF;rotate_left
  · have : a = INF := by omega
    subst this
    decide
  obtain ⟨m, i, hr, _⟩ := read_fin h;have hs : Ieee.double.sub a a = some 0 := by
    unfold Ieee.Format.sub;rw [hr];have e : (Ieee.Datum.number false m (-1074 + (i : Int))).sum (Ieee.Datum.number false m (-1074 + (i : Int))).opposite = some (Ieee.Datum.number false 0 (min (-1074 + (i : Int)) (-1074 + (i : Int)))) := by
      simp [Ieee.Datum.sum, Ieee.Datum.opposite, Ieee.signed];omega
    rw [e];exact congrArg some (near_zero _)
  have h1 : fsubOk a a = true := by unfold fsubOk; rw [hs]; rfl
  have h2 : fsub a a = 0 := by unfold fsub; rw [hs]; rfl
  rw [zp h1, h2, zf zO]
  decide
def lastC (t : Nat) : List S41 → Nat → Nat → Nat
  | [], _, last => last
  | y :: l, i, last => lastC t l (i + 1) (if 0 < cntW t y.f1 then i else last)
theorem lastC_cons (t : Nat) (y : S41) (l : List S41) (i last : Nat) : lastC t (y :: l) i last = lastC t l (i + 1) (if 0 < cntW t y.f1 then i else last) := rfl
def pickL (t : Nat) (S : Nat → Nat) (x : Nat) : List S41 → Nat → Nat → Nat
  | [], _, L => L
  | y :: l, i, L => if 0 < cntW t y.f1 then (if x < S i then i else pickL t S x l (i + 1) L) else pickL t S x l (i + 1) L
theorem pick_far {t : Nat} {S : Nat → Nat} {d x : Nat} (hd : ¬ d < ONE) : ∀ (l : List S41) (i last : Nat), pick t S d x l i last = lastC t l i last
  | [], _, _ => rfl
  | y :: l, i, last => by
    unfold pick lastC;by_cases h : 0 < cntW t y.f1
    · rw [zp h, zn (fun g => hd g.1), zp h];exact pick_far hd l _ _
    rw [zn h, zn h];exact pick_far hd l _ _
theorem pick_near {t : Nat} {S : Nat → Nat} {d x : Nat} (hd : d < ONE) : ∀ (l : List S41) (i last : Nat), pick t S d x l i last = pickL t S x l i (lastC t l i last)
  | [], _, _ => rfl
  | y :: l, i, last => by
    unfold pick pickL;by_cases h : 0 < cntW t y.f1
    · rw [zp h, zp h];by_cases hx : x < S i
      · rw [zp ⟨hd, hx⟩, zp hx]
      rw [zn (fun g => hx g.2), zn hx];have e : lastC t (y :: l) i last = lastC t l (i + 1) i := by
        show lastC t l (i + 1) (if 0 < cntW t y.f1 then i else last) = _
        rw [zp h]
      rw [e];exact pick_near hd l _ _
    rw [zn h, zn h];have e : lastC t (y :: l) i last = lastC t l (i + 1) last := by
      show lastC t l (i + 1) (if 0 < cntW t y.f1 then i else last) = _
      rw [zn h]
    rw [e];exact pick_near hd l _ _
theorem nan_self {d : Nat} (hd : d < 18446744073709551616) (h : Ieee.double.order d 0 = none) : fneq d d = true := by
  have hn : ∃ s fr, Ieee.double.read d = .nan s fr := by
    by_cases h1 : d ≤ INF
    · rw [order_nn h1 zero_le] at h;cases h
    by_cases h2 : d < 9223372036854775808
    · obtain ⟨fr, hr⟩ := read_nan zO h2;exact ⟨_, fr, hr⟩
    rcases read_neg zO hd with ⟨m, e, hr, _⟩ | hr | ⟨fr, hr⟩
    · unfold Ieee.Format.order at h;rw [hr, show Ieee.double.read 0 = .number false 0 (-1074) from rfl] at h;cases h
    · unfold Ieee.Format.order at h;rw [hr, show Ieee.double.read 0 = .number false 0 (-1074) from rfl] at h;cases h
    exact ⟨_, fr, hr⟩
  obtain ⟨s, fr, hr⟩ := hn;unfold fneq Ieee.Format.order;rw [hr];rfl
theorem one_le : ONE ≤ INF := by decide
theorem rWeigh_is (l : List S41) (hl : l.length ≤ 200) (d : Nat) (hd : d < 18446744073709551616) : Ev (fun k => tollgateref10_Weigh.f k l d) (weighF l d) := by
  have rest : Ev (fun k => tollgateref10_Weigh.j0 k l d (TT l) (allW l)) (weighF l d) := by
    refine Ev.step (fun k => by simp only [tollgateref10_Weigh.j0]; rfl) ?_;have hal := allW_lt l hl;rw [fgtr_nn (Nat.le_of_lt hal) (Nat.zero_le _)];by_cases h1 : 0 < allW l;rotate_left
    · unfold weighF;rw [zn h1];exact Ev.neg (by simp only [decide_eq_true_eq]; exact h1) (Ev.ret rfl)
    refine Ev.pos (zt h1) ?_;have ht := TT_lt l;unfold weighF;rw [zp h1]
    -- the second loop
    have second : ∀ (X x L : Nat), (∀ s, s ≤ INF → flss X s = decide (x < s)) → ∀ (n i : Nat), i + n = l.length → Ev (fun k => tollgateref10_Weigh.l1 k l (TT l) (L : Int) X (i : Int)) ((pickL (TT l) (fun i => sumAt (TT l) (l.take (i + 1))) x (l.drop i) i L : Int), true) := by
      intro X x L hX n
      induction n with
      | zero =>
        intro i hi;rw [List.drop_of_length_le zO];exact Ev.step (fun k => by simp only [tollgateref10_Weigh.l1]; rfl) (Ev.neg zO (Ev.ret rfl))
      | succ n ih =>
        intro i hi;have h2 : i < l.length := by omega
        obtain ⟨m1, m2⟩ := rmul_is (w := (rd_T41 l (i : Int)).f1) ht;have hi1 := ih (i + 1) zO;rw [rd44_drop h2];refine Ev.step (fun k => by simp only [tollgateref10_Weigh.l1]; rfl) (Ev.pos zO (Ev.pos zO (Ev.call (rcounts_is _) ?_)));refine Ev.pos m1 ?_;have hw : wrap64 ((i : Int) + 1) = ((i + 1 : Nat) : Int) := by clear m1 m2; unfold wrap64; omega
        rw [m2, hw, fgtr_nn (cntW_le _ _) (Nat.zero_le _)];clear hw;unfold pickL;by_cases h3 : 0 < cntW (TT l) (rd_T41 l (i : Int)).f1
        · rw [zp h3];refine Ev.pos (zt h3) (Ev.bind (rsum_is ht l hl (i + 1) zO) ?_);rw [hX _ (sumAt_le _ _)];by_cases h4 : x < sumAt (TT l) (l.take (i + 1))
          · rw [zp h4];exact Ev.pos (zt h4) (Ev.ret rfl)
          rw [zn h4];exact Ev.neg (by simp only [decide_eq_true_eq]; exact h4) hi1
        rw [zn h3];exact Ev.neg (by simp only [decide_eq_true_eq]; exact h3) hi1
    -- behind the first loop
    have tail : ∀ L : Nat, L = lastC (TT l) l 0 0 → Ev (fun k => if (fgeq d 4607182418800017408) = true then (some ((L : Int), true)) else (if (fneq d d) = true then (tollgateref10_Weigh.j2 k l d (TT l) (allW l) (L : Int) true) else (tollgateref10_Weigh.j2 k l d (TT l) (allW l) (L : Int) (flss d 0)))) ((pick (TT l) (fun i => sumAt (TT l) (l.take (i + 1))) (eff d) (prodS (eff d) (allW l)) l 0 0 : Int), true) := by
      intro L hL;have go : ∀ D, D ≤ INF → D = eff d → D < ONE → Ev (fun k => tollgateref10_Weigh.j3 k l D (TT l) (allW l) (L : Int)) ((pick (TT l) (fun i => sumAt (TT l) (l.take (i + 1))) (eff d) (prodS (eff d) (allW l)) l 0 0 : Int), true) := by
        intro D hD he h1';rw [← he, pick_near h1', ← hL];obtain ⟨m1, m2⟩ := prodS_is hD hal h1;refine Ev.step (fun k => by simp only [tollgateref10_Weigh.j3]; rfl) (Ev.pos m1 ?_);rw [m2];exact second _ _ L (fun s hs => flss_is (prodS_le _ _) hs) l.length 0 zO
      by_cases hI : d ≤ INF
      · have e0 : eff d = d := zp hI;have hge : fgeq d 4607182418800017408 = decide (ONE ≤ d) := by
          unfold fgeq;rw [order_nn hI one_le];by_cases h2 : ONE ≤ d
          · rw [zt h2]
            rcases Nat.lt_or_ge ONE d with h3 | h3
            · rw [Nat.compare_eq_gt.2 h3]; rfl
            rw [Nat.compare_eq_eq.2 (show d = ONE by omega)]; rfl
          rw [zf h2, Nat.compare_eq_lt.2 (show d < ONE by omega)]; rfl
        by_cases h2 : ONE ≤ d
        · refine Ev.pos (by rw [hge]; exact zt h2) (Ev.ret ?_);rw [pick_far (by rw [e0]; omega), hL]
        refine Ev.neg (by rw [hge]; simp only [decide_eq_true_eq]; exact h2) ?_;have hnn : fneq d d = false := by
          unfold fneq;rw [order_nn hI hI, Nat.compare_eq_eq.2 rfl]; rfl
        have hls : flss d 0 = false := by
          rw [flss_is hI (Nat.zero_le _)];exact zf zO
        refine Ev.neg (by rw [hnn]; simp) ?_;rw [hls];exact Ev.step (fun k => by simp only [tollgateref10_Weigh.j2]; rfl) (Ev.neg (by simp) (go d hI e0.symm zO))
      have e0 : eff d = 0 := zn hI;have hge : fgeq d 4607182418800017408 = false := by
        unfold fgeq
        rcases order_other zO hd one_le with h | ⟨h, _⟩ | h
        · rw [show (4607182418800017408 : Nat) = ONE from rfl, h]; rfl
        · rw [show (4607182418800017408 : Nat) = ONE from rfl, h]; rfl
        subst h
        decide
      refine Ev.neg (by rw [hge]; simp) ?_
      rcases order_other zO hd zero_le with h | ⟨h, _⟩ | h
      · refine Ev.pos (nan_self hd h) ?_;exact Ev.step (fun k => by simp only [tollgateref10_Weigh.j2]; rfl) (Ev.pos (rfl : true = true) (go 0 (Nat.zero_le _) e0.symm one_pos))
      · have hls : flss d 0 = true := by unfold flss; rw [h]; rfl
        rw [hls];by_cases hq : fneq d d = true
        · exact Ev.pos hq (Ev.step (fun k => by simp only [tollgateref10_Weigh.j2]; rfl) (Ev.pos (rfl : true = true) (go 0 (Nat.zero_le _) e0.symm one_pos)))
        exact Ev.neg hq (Ev.step (fun k => by simp only [tollgateref10_Weigh.j2]; rfl) (Ev.pos (rfl : true = true) (go 0 (Nat.zero_le _) e0.symm one_pos)))
      subst h;have hnn : fneq NEG0 NEG0 = false := by decide
      have hls : flss NEG0 0 = false := by decide
      refine Ev.neg (by rw [hnn]; simp) ?_;rw [hls];refine Ev.step (fun k => by simp only [tollgateref10_Weigh.j2]; rfl) (Ev.neg (by simp) ?_);have hm : fmulOk NEG0 (allW l) = true ∧ fmul NEG0 (allW l) = NEG0 := by
        unfold fmulOk fmul;rw [show NEG0 = 9223372036854775808 from rfl, mul_neg0 hal];exact ⟨rfl, rfl⟩
      refine Ev.step (fun k => by simp only [tollgateref10_Weigh.j3]; rfl) (Ev.pos hm.1 ?_);rw [hm.2, e0];have hp0 : prodS 0 (allW l) = 0 := by
        unfold prodS;rw [zp (by decide), val_zero, Nat.zero_mul];exact near_zero _
      rw [hp0, pick_near one_pos, ← hL];refine second _ _ L (fun s hs => ?_) l.length 0 zO;have := flss_is (Nat.zero_le _) hs;rw [← this];unfold flss;rw [show NEG0 = 9223372036854775808 from rfl, order_neg0 hs]
    -- the first loop
    have first : ∀ (n i L : Nat), i + n = l.length → lastC (TT l) (l.drop i) i L = lastC (TT l) l 0 0 → Ev (fun k => tollgateref10_Weigh.l0 k l d (TT l) (allW l) (L : Int) (i : Int)) ((pick (TT l) (fun i => sumAt (TT l) (l.take (i + 1))) (eff d) (prodS (eff d) (allW l)) l 0 0 : Int), true) := by
      intro n
      induction n with
      | zero =>
        intro i L hi hL;rw [List.drop_of_length_le zO] at hL;exact Ev.step (fun k => by simp only [tollgateref10_Weigh.l0]; rfl) (Ev.neg zO (tail L hL))
      | succ n ih =>
        intro i L hi hL;have h2 : i < l.length := by omega
        obtain ⟨m1, m2⟩ := rmul_is (w := (rd_T41 l (i : Int)).f1) ht;rw [rd44_drop h2] at hL;rw [lastC_cons] at hL;refine Ev.step (fun k => by simp only [tollgateref10_Weigh.l0]; rfl) (Ev.pos zO (Ev.pos zO (Ev.call (rcounts_is _) ?_)));refine Ev.pos m1 ?_;have hw : wrap64 ((i : Int) + 1) = ((i + 1 : Nat) : Int) := by clear m1 m2; unfold wrap64; omega
        rw [m2, hw, fgtr_nn (cntW_le _ _) (Nat.zero_le _)];clear hw;by_cases h3 : 0 < cntW (TT l) (rd_T41 l (i : Int)).f1
        · rw [zp h3] at hL;exact Ev.pos (zt h3) (ih (i + 1) i zO hL)
        rw [zn h3] at hL;exact Ev.neg (by simp only [decide_eq_true_eq]; exact h3) (ih (i + 1) L zO hL)
    exact first l.length 0 0 zO rfl
  unfold tollgateref10_Weigh.f;have hall : l.take l.length = l := List.take_length;have s1 := rsum_is one_lt l hl l.length (zh _);rw [hall] at s1;refine Ev.bind s1 ?_;rw [fsubN_is (sumAt_le _ _)];by_cases h1 : sumAt ONE l = INF
  · have e : TT l = TH := by unfold TT; rw [zp h1]
    have s2 := rsum_is th_lt l hl l.length (zh _);rw [hall] at s2;refine Ev.pos (zt h1) (Ev.bind s2 ?_);unfold allW at rest;rw [e] at rest;exact rest
  have e : TT l = ONE := by unfold TT; rw [zn h1]
  refine Ev.neg (by simp only [decide_eq_true_eq]; exact h1) ?_;unfold allW at rest;rw [e] at rest;exact rest
end Go.Proofs.YtahaihnlkohhgaaGreatDoor.PP
end
section
namespace Go.Proofs.YtahaihnlkohhgaaGreatDoor.HP
open Go.RowKit Go.Proofs.YtahaihnlkohhgaaGreatDoor.S Go.Proofs.YtahaihnlkohhgaaGreatDoorW.PrintWords Go.Proofs.YtahaihnlkohhgaaGreatDoorW.PrintLast Go.Proofs.YtahaihnlkohhgaaGreatDoorW.PrintMore
theorem loopS_p (E : Int) (m p q hh : ByteArray) : ∀ (ls : List (List UInt8)) (n : Nat) (ho : List UInt8) (acc : List Fd), (loopS E m p q hh ls n ho acc).2.1.size ≤ p.size
  | [], n, ho, acc => by
    show (fin E m p q hh n (B ho) (acc.map sF)).2.1.size ≤ _
    unfold fin
    split
    · split
      · exact Nat.zero_le _
      exact zh _
    exact Nat.zero_le _
  | ln :: ls, n, ho, acc => by
    rw [loopS];cases lineS ln with
    | none => exact Nat.zero_le _
    | some f =>
      simp only
      split
      · split
        · exact loopS_p E m p q hh ls _ _ _
        exact Nat.zero_le _
      exact loopS_p E m p q hh ls _ _ _
theorem far_len (rest q : List UInt8) : (farS rest q).1.length ≤ rest.length + 1 := by
  unfold farS;by_cases hk : Lib.indexByte rest 47 < 0
  · simp only [hk, if_true]
    split
    · show [(47 : UInt8)].length ≤ _
      simp
    exact Nat.zero_le _
  simp only [hk, if_false]
  split
  · show (List.drop _ _).length ≤ _
    rw [List.length_drop];omega
  exact Nat.zero_le _
theorem trimP_len (s p : List UInt8) : (Lib.trimPrefix s p).length ≤ s.length := by
  unfold Lib.trimPrefix;by_cases h : Lib.hasPrefix s p = true
  · rw [zp h, List.length_drop];omega
  rw [zn h];exact zh _
theorem target_len (t : List UInt8) : (targetS t).1.length ≤ t.length + 1 := by
  have h0 := (cut_le t [63]).1;unfold targetS
  split
  · have h1 := far_len (Lib.trimPrefix (Lib.cut t [63]).1 httpL) (Lib.cut t [63]).2.1;have h2 := trimP_len (Lib.cut t [63]).1 httpL;omega
  show (Lib.cut t [63]).1.length ≤ _
  omega
theorem path_small (b : List UInt8) : (parseS b).2.1.size ≤ 1000000 := by
  unfold parseS
  split
  · split
    · exact Nat.zero_le _
    exact Nat.zero_le _
  unfold headS;simp only
  split
  rotate_left
  · exact Nat.zero_le _
  refine Nat.le_trans (loopS_p _ _ _ _ _ _ _ _ _) ?_;rw [B_size];refine Nat.le_trans (target_len _) ?_;have h1 := (cut_le (Lib.cut ((Lib.split (b.take (Lib.index (b.take 2048) [13, 10, 13, 10]).toNat) [13, 10]).headD []) [32]).2.1 [32]).1;have h2 := (cut_le ((Lib.split (b.take (Lib.index (b.take 2048) [13, 10, 13, 10]).toNat) [13, 10]).headD []) [32]).2;have hroom := Lib.index_room (b.take 2048) [13, 10, 13, 10];rw [List.length_take] at hroom
  rename_i hc he
  have hr := hroom zO;simp only [List.length_cons, List.length_nil] at hr;have h3 : ((Lib.split (b.take (Lib.index (b.take 2048) [13, 10, 13, 10]).toNat) [13, 10]).headD []).length ≤ 2048 := by
    obtain ⟨_, n2⟩ := split_len (b.take (Lib.index (b.take 2048) [13, 10, 13, 10]).toNat) [13, 10];have hne := split_ne (b.take (Lib.index (b.take 2048) [13, 10, 13, 10]).toNat) [13, 10];generalize Lib.split (b.take (Lib.index (b.take 2048) [13, 10, 13, 10]).toNat) [13, 10] = ls at *;cases ls with
    | nil => exact absurd rfl hne
    | cons ln ls =>
      have := n2 ln (by simp);rw [List.length_take] at this
      show ln.length ≤ _
      omega
  omega
end Go.Proofs.YtahaihnlkohhgaaGreatDoor.HP
namespace Go.Proofs.YtahaihnlkohhgaaGreatDoor.PP
open Go.RowKit Go.Proofs.YtahaihnlkohhgaaGreatDoor.S Go.Proofs.YtahaihnlkohhgaaGreatDoorW.PrintWords Go.Proofs.YtahaihnlkohhgaaGreatDoorW.PrintLast Go.Proofs.YtahaihnlkohhgaaGreatDoorW.PrintMore Go.Proofs.YtahaihnlkohhgaaGreatDoor.FL
theorem wf_lt {b : Nat} (h : (Lit.float .f64 b).wf = true) : b < 18446744073709551616 := by
  simpa [Lit.wf] using h
theorem pick_at (t : Nat) (S : Nat → Nat) (d x : Nat) : ∀ (l : List S41) (i last : Nat), (pick t S d x l i last = last ∧ ∀ y ∈ l, cntW t y.f1 = 0) ∨ ∃ j y, l[j]? = some y ∧ 0 < cntW t y.f1 ∧ pick t S d x l i last = i + j
  | [], i, last => Or.inl ⟨rfl, by simp⟩
  | y :: l, i, last => by
    unfold pick;by_cases h1 : 0 < cntW t y.f1
    · rw [zp h1]
      split
      · exact Or.inr ⟨0, y, rfl, h1, rfl⟩
      rcases pick_at t S d x l (i + 1) i with ⟨e, _⟩ | ⟨j, z, hz, hc, e⟩
      · exact Or.inr ⟨0, y, rfl, h1, by rw [e]; rfl⟩
      exact Or.inr ⟨j + 1, z, hz, hc, by rw [e]; omega⟩
    rw [zn h1]
    rcases pick_at t S d x l (i + 1) last with ⟨e, he⟩ | ⟨j, z, hz, hc, e⟩
    · refine Or.inl ⟨e, fun z hz => ?_⟩
      rcases List.mem_cons.1 hz with rfl | hz
      · omega
      exact he z hz
    exact Or.inr ⟨j + 1, z, hz, hc, by rw [e]; omega⟩
theorem weigh_at (l : List S41) (hl : l.length ≤ 200) (d : Nat) : (weighF l d = (0, false) ∧ ¬ ∃ y ∈ l, 0 < y.f1 ∧ y.f1 < INF) ∨ ∃ j : Nat, weighF l d = ((j : Int), true) ∧ j < l.length ∧ 0 < (rd_T41 l (j : Int)).f1 ∧ (rd_T41 l (j : Int)).f1 < INF ∧ ∃ y ∈ l, 0 < y.f1 ∧ y.f1 < INF := by
  unfold weighF;by_cases h : 0 < allW l;rotate_left
  · rw [zn h];exact Or.inl ⟨rfl, fun hx => h ((all_pos l hl).2 hx)⟩
  rw [zp h];have hex := (all_pos l hl).1 h
  rcases pick_at (TT l) (fun i => sumAt (TT l) (l.take (i + 1))) (eff d) (prodS (eff d) (allW l)) l 0 0 with ⟨_, he⟩ | ⟨j, y, hy, hc, e⟩
  · exfalso
    have := sum_zero (TT l) l he;unfold allW at h;omega
  obtain ⟨hj, hy2⟩ := List.getElem?_eq_some_iff.1 hy;have hrd : rd_T41 l (j : Int) = y := by
    simp [rd_T41, List.getD_eq_getElem?_getD, hy]
  obtain ⟨c1, c2⟩ := cntW_pos hc;exact Or.inr ⟨j, by rw [e, Nat.zero_add], hj, by rw [hrd]; exact c1, by rw [hrd]; exact c2, hex⟩
theorem fold_false (h s : ByteArray) : ∀ (l : List S64) (a : Found), (l.foldl (findStep h s) a).2.2.2 = false → l.foldl (findStep h s) a = a
  | [], _, _ => rfl
  | x :: l, a, hf => by
    have e := fold_false h s l (findStep h s a x) hf;rw [List.foldl_cons] at hf ⊢;rw [e] at hf ⊢;unfold findStep at hf ⊢
    split
    rotate_left
    · rfl
    rename_i h1
    rw [zp h1] at hf
    split
    · rename_i h2
      rw [zp h2] at hf
      split
      · rename_i h3
        rw [zp h3] at hf;cases hf
      rfl
    rename_i h2
    rw [zn h2] at hf;cases hf
theorem found_none {h s : ByteArray} {l : List S64} (hf : (findF h s l).2.2.2 = false) : findF h s l = nofound := fold_false h s l nofound hf
theorem ref_l0 (d : Nat) (v : Int) (f2 : List S39) (pool : ByteArray) : ∀ (n i : Nat), i + n = f2.length →
    (idxP pool (f2.drop i) (i : Int) = -1 → Ev (fun k => refServe.l0 k d i v f2 pool) (503, v, pool, (⟨#[]⟩ : ByteArray))) ∧
    (∀ j : Nat, idxP pool (f2.drop i) (i : Int) = (j : Int) → ∀ R, Ev (fun k => (tollgateref10_Weigh.f k (rd_T39 f2 (j : Int)).f1 d).bind fun t =>
          if t.2 = true then (if 0 ≤ t.1 ∧ t.1 < ((rd_T39 f2 (j : Int)).f1.length : Int) then some (200, v, pool, (rd_T41 (rd_T39 f2 (j : Int)).f1 t.1).f0) else none)
          else some (503, v, pool, (⟨#[]⟩ : ByteArray))) R → Ev (fun k => refServe.l0 k d i v f2 pool) R) := by
  intro n
  induction n with
  | zero =>
    intro i hi;rw [List.drop_of_length_le zO];refine ⟨fun _ => Ev.step (fun k => by simp only [refServe.l0]; rfl) (Ev.neg zO (Ev.ret rfl)), fun j h => ?_⟩;unfold idxP at h;omega
  | succ n ih =>
    intro i hi;have h1 : i < f2.length := by omega
    obtain ⟨g1, g2⟩ := ih (i + 1) zO;rw [rd53_drop h1];have e : idxP pool (rd_T39 f2 (i : Int) :: f2.drop (i + 1)) (i : Int) = if (rd_T39 f2 (i : Int)).f0.toList == pool.toList then (i : Int) else idxP pool (f2.drop (i + 1)) ((i + 1 : Nat) : Int) := rfl
    rw [e];by_cases hn : (rd_T39 f2 (i : Int)).f0.toList = pool.toList
    · have hb : ((rd_T39 f2 (i : Int)).f0.toList == pool.toList) = true := by rw [hn]; exact beq_self_eq_true _
      rw [hb];simp only [if_true];refine ⟨fun h => by omega, fun j h R hR => ?_⟩;have hij : i = j := by omega
      subst hij;exact Ev.step (fun k => by simp only [refServe.l0]; rfl) (Ev.pos h1 (Ev.pos hn hR))
    have hb : ((rd_T39 f2 (i : Int)).f0.toList == pool.toList) = false := by simpa using hn
    rw [hb];simp only [Bool.false_eq_true, if_false];exact ⟨fun h => Ev.step (fun k => by simp only [refServe.l0]; rfl) (Ev.pos h1 (Ev.neg hn (g1 h))), fun j h R hR => Ev.step (fun k => by simp only [refServe.l0]; rfl) (Ev.pos h1 (Ev.neg hn (g2 j h R hR)))⟩
theorem serve_both (v : Int) (f1 : List S64) (f2 : List S39) (b : List UInt8) (d : Nat) (hbl : b.length ≤ 5000) (hl : f1.length ≤ 200) (hp : f2.length ≤ 200) (ht : ∀ p ∈ f2, p.f1.length ≤ 200) (hw : ∀ p ∈ f2, ∀ y ∈ p.f1, y.f1 < 18446744073709551616) (hd : d < 18446744073709551616) :
    ∃ r, Ev (fun k => plane_Serve.f k v f1 f2 (bytesOf (HP.B b)) d) r ∧ Ev (fun k => refServe.f k v f1 f2 (bytesOf (HP.B b)) d) r := by
  have hP := HP.parseS_is b;have hQ := HP.refParse_is b zO;have hs := HP.path_small b;generalize HP.parseS b = x at *;obtain ⟨m, p, q, hh, fs, n, er⟩ := x;simp only at hs;have h2000 : f2.length ≤ 2000 := by omega
  by_cases he : er = 0;rotate_left
  · refine ⟨(400, v, ⟨#[]⟩, ⟨#[]⟩), ?_, ?_⟩
    · exact Ev.bind hP (Ev.neg he (Ev.ret rfl))
    exact Ev.pos h2000 (Ev.bind hQ (Ev.neg he (Ev.ret rfl)))
  have hF := Find_is v f1 f2 hh p zO zO;have hG := rFind_is v f1 f2 hl hh p zO;cases hf : (findF hh p f1).2.2.2 with
  | false =>
    rw [found_none hf] at hF hG;refine ⟨(404, v, ⟨#[]⟩, ⟨#[]⟩), ?_, ?_⟩
    · exact Ev.bind hP (Ev.pos he (Ev.bind hF (Ev.neg (by simp [nofound]) (Ev.ret rfl))))
    exact Ev.pos h2000 (Ev.bind hQ (Ev.pos he (Ev.bind hG (Ev.neg (by simp [nofound]) (Ev.ret rfl)))))
  | true =>
    generalize findF hh p f1 = F at *;obtain ⟨s1, s2, pool, ok⟩ := F;simp only at hf;obtain ⟨g1, g2⟩ := ref_l0 d v f2 pool f2.length 0 zO;rw [List.drop_zero] at g1 g2
    rcases idxP_in pool f2 0 with hi | ⟨hi0, hi1⟩
    · refine ⟨(503, v, pool, ⟨#[]⟩), ?_, ?_⟩
      · exact Ev.bind hP (Ev.pos he (Ev.bind hF (Ev.pos hf (Ev.pos (show idxP pool f2 0 < 0 by omega) (Ev.pos h2000 (Ev.ret rfl))))))
      exact Ev.pos h2000 (Ev.bind hQ (Ev.pos he (Ev.bind hG (Ev.pos hf (g1 hi)))))
    obtain ⟨i, hi⟩ : ∃ i : Nat, idxP pool f2 0 = (i : Int) := ⟨(idxP pool f2 0).toNat, zO⟩;have hin : i < f2.length := by omega
    have hmem := List.mem_of_getElem? (idx_rd f2 i hin);have hW := Weigh_is (rd_T39 f2 (i : Int)).f1 (ht _ hmem) (hw _ hmem) d hd;have hV := rWeigh_is (rd_T39 f2 (i : Int)).f1 (ht _ hmem) d hd;have gg := g2 i hi
    rcases weigh_at (rd_T39 f2 (i : Int)).f1 (ht _ hmem) d with ⟨hwf, _⟩ | ⟨j, hwf, hj, _⟩
    · rw [hwf] at hW hV;refine ⟨(503, v, pool, ⟨#[]⟩), ?_, ?_⟩
      · refine Ev.bind hP (Ev.pos he (Ev.bind hF (Ev.pos hf (Ev.neg (show ¬ idxP pool f2 0 < 0 by omega) ?_))));simp only [hi];exact Ev.bind hW (Ev.neg (by simp) (Ev.pos h2000 (Ev.ret rfl)))
      exact Ev.pos h2000 (Ev.bind hQ (Ev.pos he (Ev.bind hG (Ev.pos hf (gg _ (Ev.bind hV (Ev.neg (by simp) (Ev.ret rfl))))))))
    rw [hwf] at hW hV;refine ⟨(200, v, pool, (rd_T41 (rd_T39 f2 (i : Int)).f1 (j : Int)).f0), ?_, ?_⟩
    · refine Ev.bind hP (Ev.pos he (Ev.bind hF (Ev.pos hf (Ev.neg (show ¬ idxP pool f2 0 < 0 by omega) ?_))));simp only [hi];exact Ev.bind hW (Ev.pos rfl (Ev.pos ⟨zO, zO, zO⟩ (Ev.ret rfl)))
    exact Ev.pos h2000 (Ev.bind hQ (Ev.pos he (Ev.bind hG (Ev.pos hf (gg _ (Ev.bind hV (Ev.pos rfl (Ev.pos ⟨zO, zO⟩ (Ev.ret rfl)))))))))
def GoodC (f1 : List S64) (f2 : List S39) : Prop := (f1.length ≤ 200 ∧ f2.length ≤ 200 ∧ ∀ p ∈ f2, p.f1.length ≤ 200) ∧ ∀ p ∈ f2, ∀ y ∈ p.f1, y.f1 < 18446744073709551616
theorem same_good {f1 : List S64} {f2 : List S39} (v : Int) (h : GoodC f1 f2) : ∃ k0, ∀ k, k0 ≤ k → SameB k v f1 f2 := by
  obtain ⟨⟨h1, h2, h3⟩, _⟩ := h;obtain ⟨k0, hk⟩ := Same_is v f1 f2 h1 h2 h3;exact ⟨k0, fun k hk0 => ⟨hk k hk0, zO, zO, fun x hx => Nat.le_trans (h3 x hx) zO⟩⟩
theorem play_is : ∀ (n : Nat) (l : List S32), (∀ y ∈ l, ok32 y) → ∀ (v : Int) (f1 : List S64) (f2 : List S39), GoodC f1 f2 → ∃ k0, ∀ k, k0 ≤ k → Play k n l v f1 f2
  | 0, _, _, _, _, _, _ => ⟨0, fun _ _ => trivial⟩
  | _ + 1, [], _, _, _, _, _ => ⟨0, fun _ _ => trivial⟩
  | n + 1, x :: r, hok, v, f1, f2, hg => by
    have hx := hok x List.mem_cons_self;have hr := fun y hy => hok y (List.mem_cons_of_mem x hy)
    obtain ⟨s, ⟨ks, hs⟩, hb⟩ := short_is x.f1.f0 x.f1.f1 x.f1.f2;obtain ⟨k1, h1⟩ := play_is n r hr v f1 f2 hg;by_cases hc : s = true ∧ x.f2.length ≤ 5000;rotate_left
    · refine ⟨max ks k1, fun k hk => ⟨s, hs k zO, ?_⟩⟩;rw [zn hc];exact h1 k zO
    by_cases h0 : x.f0 = 0
    · have hgx : GoodC x.f1.f1 x.f1.f2 := ⟨hb hc.1, fun p hp t ht => wf_lt ((hx.2.1.2.2 p hp).2 t ht).2⟩;obtain ⟨kc, hcp⟩ := Copy_is x.f1.f0 x.f1.f1 x.f1.f2 hgx.1.1 hgx.1.2.1 hgx.1.2.2;have hsm : smallC x.f1.f1 x.f1.f2 := ⟨by have := hgx.1.1; omega, by have := hgx.1.2.1; omega, fun y hy => Nat.le_trans (hgx.1.2.2 y hy) zO⟩;by_cases hv : v < x.f1.f0
      · obtain ⟨k2, h2⟩ := play_is n r hr x.f1.f0 x.f1.f1 x.f1.f2 hgx;obtain ⟨k3, h3⟩ := same_good x.f1.f0 hgx;refine ⟨max ks (max kc (max k2 k3)), fun k hk => ⟨s, hs k zO, ?_⟩⟩;rw [zp hc, zp h0, zp hv];exact ⟨hsm, hcp k zO, h3 k zO, h2 k zO⟩
      obtain ⟨k3, h3⟩ := same_good v hg;refine ⟨max ks (max kc (max k1 k3)), fun k hk => ⟨s, hs k zO, ?_⟩⟩;rw [zp hc, zp h0, zn hv];exact ⟨hsm, hcp k zO, h3 k zO, h1 k zO⟩
    obtain ⟨b, hbb⟩ := HP.bytes_in x.f2 hx.2.2.1;have hbl : b.length ≤ 5000 := by
      have := hc.2;rw [hbb, HP.N8_len] at this;exact this
    obtain ⟨a, ⟨ka, ha⟩, ⟨kb, hb2⟩⟩ := serve_both v f1 f2 b x.f3 hbl hg.1.1 hg.1.2.1 hg.1.2.2 hg.2 (wf_lt hx.2.2.2);obtain ⟨k3, h3⟩ := same_good v hg;refine ⟨max ks (max ka (max kb (max k1 k3))), fun k hk => ⟨s, hs k zO, ?_⟩⟩;rw [zp hc, zn h0, hbb];exact ⟨a, ha k zO, hb2 k zO, h3 k zO, h1 k zO⟩
end Go.Proofs.YtahaihnlkohhgaaGreatDoor.PP
end
section
open Go Go.Proofs.YtahaihnlkohhgaaGreatDoor.S in
def _root_.Go.Proofs.YtahaihnlkohhgaaGreatDoor.S.tollgatelaw10_PlaneServes.Pure2 : Prop := ∀ (l0 : List (S32)), (∀ y ∈ l0, ok32 y) → ∃ k, tollgatelaw10_PlaneServes.f k l0 = some true
namespace Go.Proofs.YtahaihnlkohhgaaGreatDoor.Pure
open Go.RowKit Go.Proofs.YtahaihnlkohhgaaGreatDoor.S Go.Proofs.YtahaihnlkohhgaaGreatDoor.PP Go.Proofs.YtahaihnlkohhgaaGreatDoorW.PrintWords Go.Proofs.YtahaihnlkohhgaaGreatDoorW.PrintLast Go.Proofs.YtahaihnlkohhgaaGreatDoorW.PrintMore Go.Proofs.YtahaihnlkohhgaaGreatDoor.FL
theorem PlaneServes : tollgatelaw10_PlaneServes.Pure2 := by
  intro l0 hok;obtain ⟨k0, h0⟩ := play_is 60 l0 hok 0 [] [] ⟨⟨by simp, by simp, by simp⟩, by simp⟩;obtain ⟨k1, h1⟩ := live_is;refine ⟨max k0 k1, ?_⟩;unfold tollgatelaw10_PlaneServes.f;rw [zp ⟨h0 _ zO, h1 _ zO⟩]
end Go.Proofs.YtahaihnlkohhgaaGreatDoor.Pure
end
