/- HeadLong: a head ends within MaxHead bytes, or it is ErrLimit: whatever the length of a field's value. -/
import Derived.Test.YtlknaikdlkobjaaDoorQx40
import Derived.Test.YtlknaikdlkobjaaDoorHPa
import Derived.Test.YtlknaikdlkobjaaDoorQx17
import Derived.Test.YtlknaikdlkobjaaDoorQx24
import Derived.Test.YtlknaikdlkobjaaDoorQx37
import Derived.Test.YtlknaikdlkobjaaDoorQx8
namespace Go.Proofs.YtlknaikdlkobjaaDoor.Pure
open Go.RowKit Go.Proofs.YtlknaikdlkobjaaDoor.Q Go.Proofs.YtlknaikdlkobjaaDoor.HP Go.Proofs.YtlknaikdlkobjaaDoorW.PrintWords Go.Proofs.YtlknaikdlkobjaaDoorW.PrintLast Go.Proofs.YtlknaikdlkobjaaDoorW.PrintMore
def preL : List UInt8 := [71, 69, 84, 32, 47, 32, 72, 84, 84, 80, 47, 49, 46, 49, 13, 10, 104, 111, 115, 116, 58, 32, 97, 13, 10, 120, 58, 32]
def vL (n : Nat) : List UInt8 := List.replicate n 118
def longL (n : Nat) : List UInt8 := preL ++ vL n ++ [13, 10, 13, 10]
theorem longL_length (n : Nat) : (longL n).length = 32 + n := by simp [longL, preL, vL]; omega
theorem long_at (n j : Nat) (hj : j < 28 + n) (h14 : j ≠ 14) (h23 : j ≠ 23) : (longL n)[j]? ≠ some 13 := by
  have hl : (preL ++ vL n).length = 28 + n := by simp [preL, vL]; omega
  unfold longL
  rw [List.getElem?_append_left (by omega)]
  intro h
  rcases Nat.lt_or_ge j 28 with h28 | h28
  · rw [List.getElem?_append_left (by simpa [preL] using h28)] at h
    have : ∀ j : Fin 28, j.val ≠ 14 → j.val ≠ 23 → preL[j.val]? ≠ some 13 := by decide
    exact this ⟨j, h28⟩ h14 h23 h
  · rw [List.getElem?_append_right (by simpa [preL] using h28)] at h
    have := List.mem_of_getElem? h
    simp [vL] at this
theorem long_occ (n j m : Nat) (hj : j < 28 + n) : Lib.occAt ((longL n).take m) [13, 10, 13, 10] j = false := by
  cases ho : Lib.occAt ((longL n).take m) [13, 10, 13, 10] j with
  | false => rfl
  | true =>
    exfalso
    by_cases h14 : j = 14
    · subst h14
      have hp : (longL n).drop 14 = 13 :: 10 :: 104 :: ((longL n).drop 17) := by
        unfold longL preL
        simp
      unfold Lib.occAt at ho
      rw [List.drop_take, hp] at ho
      rcases h : m - 14 with _ | _ | _ | q <;> rw [h] at ho <;> simp [List.isPrefixOf] at ho
    by_cases h23 : j = 23
    · subst h23
      have hp : (longL n).drop 23 = 13 :: 10 :: 120 :: ((longL n).drop 26) := by
        unfold longL preL
        simp
      unfold Lib.occAt at ho
      rw [List.drop_take, hp] at ho
      rcases h : m - 23 with _ | _ | _ | q <;> rw [h] at ho <;> simp [List.isPrefixOf] at ho
    have h1 := Lib.occAt_head (c := 13) rfl ho
    rw [List.getElem?_take] at h1
    split at h1
    · exact long_at n j hj h14 h23 h1
    · cases h1
/-- where the head ends -/
theorem long_index (n m : Nat) (h : 32 + n ≤ m) : Lib.index ((longL n).take m) [13, 10, 13, 10] = ((28 + n : Nat) : Int) := by
  have hd : (longL n).drop (28 + n) = [13, 10, 13, 10] := by
    have : (preL ++ vL n).length = 28 + n := by simp [preL, vL]; omega
    unfold longL
    rw [← this, List.drop_left]
  have ho := fun j hj => long_occ n j m hj
  rw [List.take_of_length_le (by rw [longL_length]; exact h)] at ho ⊢
  refine Lib.index_first (i := 28 + n) (by rw [longL_length]; omega) ?_ ho
  unfold Lib.occAt
  rw [hd]
  decide
/-- no end within m bytes -/
theorem long_none (n m : Nat) (h : m < 32 + n) : Lib.index ((longL n).take m) [13, 10, 13, 10] = -1 := by
  refine Lib.index_none (fun j hj => ?_)
  rcases Nat.lt_or_ge j (28 + n) with hl | hl
  · exact long_occ n j m hl
  · cases ho : Lib.occAt ((longL n).take m) [13, 10, 13, 10] j with
    | false => rfl
    | true =>
      rcases Lib.occAt_room ho with h1 | h1
      · rw [List.length_take] at h1
        simp at h1
        omega
      · cases h1
def line1 : List UInt8 := [71, 69, 84, 32, 47, 32, 72, 84, 84, 80, 47, 49, 46, 49]
def line2 : List UInt8 := [104, 111, 115, 116, 58, 32, 97]
def line3 (n : Nat) : List UInt8 := [120, 58, 32] ++ vL n
theorem long_split (n : Nat) : Lib.split ((longL n).take (28 + n)) [13, 10] = [line1, line2, line3 n] := by
  have h0 : (longL n).take (28 + n) = line1 ++ 13 :: 10 :: (line2 ++ 13 :: 10 :: line3 n) := by
    have : (preL ++ vL n).length = 28 + n := by simp [preL, vL]; omega
    unfold longL
    rw [← this, List.take_left]
    simp [preL, line1, line2, line3]
  rw [h0, split_more _ _ (by decide), split_more _ _ (by decide), split_last _ (by simp [line3, vL])]
theorem long_trim (n : Nat) : Lib.trimS (32 :: vL n) [9, 32] = vL n := by
  have hd : ∀ m, (vL m).dropWhile (([9, 32] : List UInt8).contains ·) = vL m := by
    intro m
    cases m with
    | zero => rfl
    | succ m => simp [vL, List.replicate_succ]
  have hr : (vL n).reverse = vL n := by simp [vL]
  unfold Lib.trimS Lib.trimRightS Lib.trimLeftS
  cases n with
  | zero => decide
  | succ n =>
    have h1 : ((32 :: vL (n + 1)).reverse.dropWhile (([9, 32] : List UInt8).contains ·)) = (32 :: vL (n + 1)).reverse := by
      rw [List.reverse_cons, hr]
      simp [vL, List.replicate_succ]
    rw [h1, List.reverse_reverse]
    have h2 : (32 :: vL (n + 1)).dropWhile (([9, 32] : List UInt8).contains ·) = (vL (n + 1)).dropWhile (([9, 32] : List UInt8).contains ·) := by simp
    rw [h2]
    exact hd (n + 1)
theorem long_val (n : Nat) : valOk (vL n) = true := by
  have ha : (vL n).all valB = true := by
    rw [List.all_eq_true]
    intro x hx
    have := (List.mem_replicate.1 hx).2
    subst this
    decide
  have he : endsOk (vL n) = true := by
    cases n with
    | zero => rfl
    | succ n =>
      have hl : (vL (n + 1)).getLastD 0 = 118 := by
        rw [List.getLastD_eq_getLast?]
        simp [vL, List.getLast?_replicate]
      have hc : vL (n + 1) = 118 :: vL n := by simp [vL, List.replicate_succ]
      rw [hc] at hl ⊢
      show (!blankB 118 && !blankB ((118 :: vL n).getLastD 0)) = true
      rw [hl]
      decide
  unfold valOk
  rw [ha, he]
  rfl
theorem target_slash : Ev (fun k => head_target.f k (B [47])) (B [47], B [], B [], true) := Ev.of (head_target.mono (B [47])) (k := 20) (by decide +kernel)
theorem host_a : Ev (fun k => head_Host.f k (B [97])) (B [97], true) := Ev.of (head_Host.mono (B [97])) (k := 20) (by decide +kernel)
theorem rest_two (e : Int) (v : List UInt8) (hv : v.length ≤ 100000) (hval : valOk v = true) (l3 : List UInt8) (h3 : Lib.cut l3 [58] = ([120], 32 :: v, true)) (h3l : l3.length ≤ 100000) (ht : Lib.trimS (32 :: v) [9, 32] = v) (he : 0 ≤ e ∧ e ≤ 100000) :
    Ev (fun k => head_Parse.l0 k e [B line1, B line2, B l3] 0 1 (B []) (B [71, 69, 84]) (B [47]) (B []) (B []) []) (B [71, 69, 84], B [47], B [], B [97], [⟨B [104, 111, 115, 116], B [97]⟩, ⟨B [120], B v⟩], e + 4, 0) := by
  have tk1 := token_is [104, 111, 115, 116] (by decide)
  rw [show tokOk [104, 111, 115, 116] = true by decide] at tk1
  have tk2 := token_is [120] (by decide)
  rw [show tokOk [120] = true by decide] at tk2
  have vl1 := value_is [97] (by decide)
  rw [show valOk [97] = true by decide] at vl1
  have vl2 := value_is v (by omega)
  rw [hval] at vl2
  have c1 : strings_Cut.f (B line2) (⟨#[58]⟩ : ByteArray) = some (B [104, 111, 115, 116], B [32, 97], true) := Cut_is line2 [58] (by decide)
  have c2 : strings_Cut.f (B l3) (⟨#[58]⟩ : ByteArray) = some (B [120], B (32 :: v), true) := by
    have := Cut_is l3 [58] (by omega)
    rw [h3] at this
    exact this
  have t1 : strings_Trim.f (B [32, 97]) (⟨#[9, 32]⟩ : ByteArray) = some (B [97]) := Trim_is [32, 97] [9, 32] (by decide) (by decide) (by decide)
  have t2 : strings_Trim.f (B (32 :: v)) (⟨#[9, 32]⟩ : ByteArray) = some (B v) := by
    have := Trim_is (32 :: v) [9, 32] (by simp; omega) (by decide) (by decide)
    rw [ht] at this
    exact this
  have lo1 : head_lower.f (B [104, 111, 115, 116]) = some (B [104, 111, 115, 116]) := Lower_is [104, 111, 115, 116] (by decide)
  have lo2 : head_lower.f (B [120]) = some (B [120]) := Lower_is [120] (by decide)
  -- the host
  refine Ev.step (fun k => by simp only [head_Parse.l0]; rfl) ?_
  refine Ev.pos (by simp) (Ev.pos (by decide) (Ev.call c1 (Ev.call t1 (Ev.pos rfl (Ev.bind tk1 (Ev.pos rfl (Ev.bind vl1 ?_)))))))
  refine Ev.step (fun k => by simp only [head_Parse.j2]; rfl) ?_
  refine Ev.neg (by decide) (Ev.call lo1 (Ev.pos (by decide) (Ev.put (Ev.call lo1 (Ev.pos (B_toList _) (Ev.bind host_a (Ev.pos rfl ?_)))))))
  -- the long field
  rw [show wrap64 (0 + 1) = 1 by decide +kernel, show wrap64 (1 + 1) = 2 by decide +kernel]
  refine Ev.step (fun k => by simp only [head_Parse.l0]; rfl) ?_
  refine Ev.pos (by simp) (Ev.pos (by decide) (Ev.call c2 (Ev.call t2 (Ev.pos rfl (Ev.bind tk2 (Ev.pos rfl (Ev.bind vl2 ?_)))))))
  refine Ev.step (fun k => by simp only [head_Parse.j2]; rfl) ?_
  refine Ev.neg (by decide) (Ev.call lo2 (Ev.pos (by decide) (Ev.put (Ev.call lo2 (Ev.neg (by rw [B_toList]; decide) ?_)))))
  -- the end
  rw [show wrap64 (2 + 1) = 3 by decide +kernel]
  refine Ev.step (fun k => by simp only [head_Parse.l0]; rfl) ?_
  have hw : wrap64 (e + 4) = e + 4 := by unfold wrap64; omega
  refine Ev.neg (by simp) (Ev.pos (by decide) (Ev.neg (by simp) (Ev.pos (B_toList []) (Ev.ret ?_))))
  rw [hw]
  rfl
theorem parse_long (n : Nat) (hn : n ≤ 2016) : Ev (fun k => head_Parse.f k (bytesOf (B (longL n)))) (B [71, 69, 84], B [47], B [], B [97], [⟨B [104, 111, 115, 116], B [97]⟩, ⟨B [120], B (vL n)⟩], ((32 + n : Nat) : Int), 0) := by
  have hl : ((longL n).map (fun b => (b.toNat : Int))).length = 32 + n := by rw [List.length_map, longL_length]
  have hmn : mn ((32 + n : Nat) : Int) 2048 = ((32 + n : Nat) : Int) := by unfold mn; rw [if_neg (by omega)]
  have tk := token_is [71, 69, 84] (by decide)
  rw [show tokOk [71, 69, 84] = true by decide] at tk
  unfold head_Parse.f
  rw [N8_B, hl, hmn]
  refine Ev.pos (by omega) (Ev.pos (by omega) ?_)
  rw [Int.toNat_natCast, ← List.map_take]
  have hix : bytes_Index.f (((longL n).take (32 + n)).map (fun b => (b.toNat : Int))) ([13, 10, 13, 10] : List Int) = some ((28 + n : Nat) : Int) := by
    rw [show ([13, 10, 13, 10] : List Int) = ([13, 10, 13, 10] : List UInt8).map (fun b => (b.toNat : Int)) from rfl, Index_is _ _ (by rw [List.length_take]; omega) (by decide) (by decide), long_index n _ (Nat.le_refl _)]
  refine Ev.call hix (Ev.neg (by omega) (Ev.pos (by omega) (Ev.pos (by omega) ?_)))
  rw [Int.toNat_natCast, ← List.map_take, strOf_N8]
  have hsp : strings_Split.f (B ((longL n).take (28 + n))) (⟨#[13, 10]⟩ : ByteArray) = some [B line1, B line2, B (line3 n)] := by
    have := Split_is ((longL n).take (28 + n)) [13, 10] (by rw [List.length_take]; omega) (by decide)
    rw [long_split] at this
    exact this
  have c1 : strings_Cut.f (B line1) (⟨#[32]⟩ : ByteArray) = some (B [71, 69, 84], B [47, 32, 72, 84, 84, 80, 47, 49, 46, 49], true) := Cut_is line1 [32] (by decide)
  have c2 : strings_Cut.f (B [47, 32, 72, 84, 84, 80, 47, 49, 46, 49]) (⟨#[32]⟩ : ByteArray) = some (B [47], B [72, 84, 84, 80, 47, 49, 46, 49], true) := Cut_is [47, 32, 72, 84, 84, 80, 47, 49, 46, 49] [32] (by decide)
  refine Ev.call hsp (Ev.pos (by simp) (Ev.call c1 (Ev.call c2 (Ev.bind target_slash (Ev.pos rfl (Ev.bind tk (Ev.pos rfl ?_)))))))
  refine Ev.step (fun k => by simp only [head_Parse.j0]; rfl) ?_
  refine Ev.neg (by rw [B_toList]; decide) ?_
  have h := rest_two ((28 + n : Nat) : Int) (vL n) (by simp [vL]; omega) (long_val n) (line3 n) (by
    have := cut_one [120] (32 :: vL n) 58 (by decide)
    exact this) (by simp [line3, vL]; omega) (long_trim n) ⟨by omega, by omega⟩
  rw [show ((28 + n : Nat) : Int) + 4 = ((32 + n : Nat) : Int) by omega] at h
  exact h
theorem parse_over (n : Nat) (hn : 2016 < n) (hn2 : n ≤ 100000) : Ev (fun k => head_Parse.f k (bytesOf (B (longL n)))) (B [], B [], B [], B [], [], 0, 6) := by
  have hl : ((longL n).map (fun b => (b.toNat : Int))).length = 32 + n := by rw [List.length_map, longL_length]
  have hmn : mn ((32 + n : Nat) : Int) 2048 = ((2048 : Nat) : Int) := by unfold mn; rw [if_pos (by omega)]; rfl
  unfold head_Parse.f
  rw [N8_B, hl, hmn]
  refine Ev.pos (by omega) (Ev.pos (by omega) ?_)
  rw [Int.toNat_natCast, ← List.map_take]
  have hix : bytes_Index.f (((longL n).take 2048).map (fun b => (b.toNat : Int))) ([13, 10, 13, 10] : List Int) = some (-1) := by
    rw [show ([13, 10, 13, 10] : List Int) = ([13, 10, 13, 10] : List UInt8).map (fun b => (b.toNat : Int)) from rfl, Index_is _ _ (by rw [List.length_take]; omega) (by decide) (by decide), long_none n 2048 (by omega)]
  exact Ev.call hix (Ev.pos (by decide) (Ev.neg (by omega) (Ev.ret rfl)))
theorem live_is : Ev (fun k => tollgatelaw09_live.f k) true := Ev.of (fun k => tollgatelaw09_live.mono k) (k := 60) (by decide +kernel)
theorem long_fill (n : Nat) (hn : n ≤ 70000) : ∀ (d i : Nat) (l : List Int), l.length = n → l.take i = List.replicate i 118 → i + d = n →
    (Ev (fun k => tollgatelaw09_HeadLong.l0 k (n : Int) (List.replicate n 118) (n : Int)) true) → Ev (fun k => tollgatelaw09_HeadLong.l0 k (n : Int) l (i : Int)) true := by
  intro d
  induction d with
  | zero =>
    intro i l hl ht hi h
    obtain rfl : i = n := by omega
    rw [List.take_of_length_le (by omega)] at ht
    rw [ht]
    exact h
  | succ d ih =>
    intro i l hl ht hi h
    have hw := wrap_succ i (by omega)
    refine Ev.step (fun k => by simp only [tollgatelaw09_HeadLong.l0]; rfl) ?_
    refine Ev.pos (by omega) (Ev.pos (by omega) (Ev.pos (by omega) ?_))
    rw [hw, Int.toNat_natCast]
    refine ih (i + 1) (l.set i 118) (by rw [List.length_set]; exact hl) ?_ (by omega) h
    rw [List.take_add_one, List.take_set_of_le (by omega), ht]
    rw [List.getElem?_set_self (by omega)]
    simp [List.replicate_succ']
theorem HeadLong : tollgatelaw09_HeadLong.Pure := by
  intro a ha
  have hr : 0 ≤ a ∧ a ≤ 65535 := by
    simp [Lit.wf, IntKind.min, IntKind.max, IntKind.signed, IntKind.bits] at ha
    omega
  refine Ev.rounds (r := true) ?_
  unfold tollgatelaw09_HeadLong.f
  have hw : wrap64 a = a := by unfold wrap64; omega
  have hm : Int.tmod a 2300 = ((a.toNat % 2300 : Nat) : Int) := by rw [Int.tmod_eq_emod_of_nonneg hr.1]; omega
  rw [hw, hm]
  generalize hn : a.toNat % 2300 = n
  have hn2 : n < 2300 := by omega
  refine Ev.pos (by omega) (Ev.pos (by omega) ?_)
  rw [Int.toNat_natCast]
  refine long_fill n (by omega) n 0 _ (by simp) (by simp) (by omega) ?_
  refine Ev.step (fun k => by simp only [tollgatelaw09_HeadLong.l0]; rfl) ?_
  refine Ev.neg (by omega) ?_
  have hs : strOfNums (List.replicate n 118) = B (vL n) := by
    rw [← strOf_N8 (vL n)]
    simp [vL]
  have hcat : ((⟨#[71, 69, 84, 32, 47, 32, 72, 84, 84, 80, 47, 49, 46, 49, 13, 10, 104, 111, 115, 116, 58, 32, 97, 13, 10, 120, 58, 32]⟩ : ByteArray) ++ B (vL n)) ++ (⟨#[13, 10, 13, 10]⟩ : ByteArray) = B (longL n) := by
    show (B preL ++ B (vL n)) ++ B [13, 10, 13, 10] = _
    rw [B_append, B_append]
    rfl
  have hsz : (B (longL n)).size = 32 + n := by rw [B_size, longL_length]
  have hsz1 : ((⟨#[71, 69, 84, 32, 47, 32, 72, 84, 84, 80, 47, 49, 46, 49, 13, 10, 104, 111, 115, 116, 58, 32, 97, 13, 10, 120, 58, 32]⟩ : ByteArray) ++ B (vL n)).size = 28 + n := by
    show (B preL ++ B (vL n)).size = _
    rw [B_append, B_size]
    simp [preL, vL]
    omega
  rw [hs, hcat, hsz, hsz1]
  refine Ev.pos (by rw [B_size]; simp [vL]; omega) (Ev.pos (by omega) (Ev.pos (by omega) ?_))
  by_cases h : n ≤ 2016
  · refine Ev.bind (parse_long n h) (Ev.neg (by omega) (Ev.bind live_is (Ev.pos rfl (Ev.pos rfl (Ev.pos rfl (Ev.pos rfl (Ev.pos (by simp) (Ev.ret ?_))))))))
    show (((B (vL n)).size : Int) == (n : Int)) = true
    rw [B_size]
    simp [vL]
  · refine Ev.bind (parse_over n (by omega) (by omega)) (Ev.pos (by omega) (Ev.bind live_is (Ev.pos rfl (Ev.pos rfl (Ev.ret rfl)))))
end Go.Proofs.YtlknaikdlkobjaaDoor.Pure
