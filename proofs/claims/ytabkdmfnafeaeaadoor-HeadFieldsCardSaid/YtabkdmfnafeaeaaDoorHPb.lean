/- Plain facts for the head: what Parse tells of a text whose lines are well-formed. -/
import Derived.Test.YtabkdmfnafeaeaaDoorHPa
import Derived.Test.YtabkdmfnafeaeaaDoorQx17
import Derived.Test.YtabkdmfnafeaeaaDoorQx24
import Derived.Test.YtabkdmfnafeaeaaDoorQx8
namespace Go.Proofs.YtabkdmfnafeaeaaDoor.HP
open Go.RowKit Go.Proofs.YtabkdmfnafeaeaaDoor.Q Go.Proofs.YtabkdmfnafeaeaaDoorW.PrintWords Go.Proofs.YtabkdmfnafeaeaaDoorW.PrintLast Go.Proofs.YtabkdmfnafeaeaaDoorW.PrintMore
/-! lines joined -/
def joinL : List (List UInt8) → List UInt8
  | [] => []
  | [a] => a
  | a :: b :: r => a ++ 13 :: 10 :: joinL (b :: r)
theorem split_join : ∀ (ls : List (List UInt8)), ls ≠ [] → (∀ a ∈ ls, (13 : UInt8) ∉ a) → Lib.split (joinL ls) [13, 10] = ls
  | [], h, _ => absurd rfl h
  | [a], _, h => split_last a (h a (by simp))
  | a :: b :: r, _, h => by
    show Lib.split (a ++ 13 :: 10 :: joinL (b :: r)) [13, 10] = _
    rw [split_more _ _ (h a (by simp)), split_join (b :: r) (by simp) (fun x hx => h x (by simp [hx]))]
theorem occ_first {s : List UInt8} {j : Nat} {t : List UInt8} (h : s[j]? ≠ some 13) : Lib.occAt s (13 :: t) j = false := occ_not rfl j h
theorem occ_drop (a s sub : List UInt8) (j : Nat) : Lib.occAt (a ++ s) sub (a.length + j) = Lib.occAt s sub j := by
  unfold Lib.occAt
  rw [List.drop_append, List.drop_eq_nil_of_le (by omega), List.nil_append, Nat.add_sub_cancel_left]
/-- within joined lines the end does not stand -/
theorem join_occ : ∀ (ls : List (List UInt8)), (∀ a ∈ ls, (13 : UInt8) ∉ a ∧ a ≠ []) → ∀ (z : List UInt8) (j : Nat), j < (joinL ls).length → Lib.occAt (joinL ls ++ 13 :: z) [13, 10, 13, 10] j = false
  | [], _, _, j, hj => absurd hj (by simp [joinL])
  | [a], h, z, j, hj => by
    have hj' : j < a.length := hj
    refine occ_first ?_
    show (a ++ 13 :: z)[j]? ≠ _
    rw [List.getElem?_append_left hj']
    exact fun he => (h a (by simp)).1 (List.mem_of_getElem? he)
  | a :: b :: r, h, z, j, hj => by
    have ih := join_occ (b :: r) (fun x hx => h x (by simp [hx])) z
    have hb := h b (by simp)
    have hne : ∃ x t, joinL (b :: r) = x :: t ∧ x ≠ 13 := by
      rcases hb2 : b with _ | ⟨x, t⟩
      · exact absurd hb2 hb.2
      · have hx : x ≠ 13 := fun hx => hb.1 (by rw [hb2, hx]; simp)
        cases r with
        | nil => exact ⟨x, t, rfl, hx⟩
        | cons c r => exact ⟨x, _, rfl, hx⟩
    obtain ⟨x, t, hx, hx13⟩ := hne
    have e : joinL (a :: b :: r) ++ 13 :: z = a ++ 13 :: 10 :: (joinL (b :: r) ++ 13 :: z) := by simp [joinL]
    rw [e]
    rcases Nat.lt_or_ge j a.length with h1 | h1
    · refine occ_first ?_
      rw [List.getElem?_append_left h1]
      exact fun he => (h a (by simp)).1 (List.mem_of_getElem? he)
    · obtain ⟨d, rfl⟩ : ∃ d, j = a.length + d := ⟨j - a.length, by omega⟩
      rw [occ_drop]
      rcases d with _ | _ | d
      · rw [hx]
        have hb2 : ((13 : UInt8) == x) = false := by simpa using fun h : (13 : UInt8) = x => hx13 h.symm
        show ([13, 10, 13, 10] : List UInt8).isPrefixOf (13 :: 10 :: x :: (t ++ 13 :: z)) = false
        simp only [List.isPrefixOf, hb2, Bool.false_and, Bool.and_false]
      · rw [hx]
        rfl
      · have e2 : Lib.occAt (13 :: 10 :: (joinL (b :: r) ++ 13 :: z)) [13, 10, 13, 10] (d + 1 + 1) = Lib.occAt (joinL (b :: r) ++ 13 :: z) [13, 10, 13, 10] d := rfl
        rw [e2]
        refine ih d ?_
        simp [joinL] at hj
        omega
theorem join_index (ls : List (List UInt8)) (h : ∀ a ∈ ls, (13 : UInt8) ∉ a ∧ a ≠ []) (z : List UInt8) : Lib.index (joinL ls ++ [13, 10, 13, 10] ++ z) [13, 10, 13, 10] = ((joinL ls).length : Int) := by
  have e : joinL ls ++ [13, 10, 13, 10] ++ z = joinL ls ++ 13 :: (10 :: 13 :: 10 :: z) := by simp
  rw [e]
  refine Lib.index_first (i := (joinL ls).length) (by simp) ?_ (fun j hj => join_occ ls h _ j hj)
  have := occ_drop (joinL ls) (13 :: (10 :: 13 :: 10 :: z)) [13, 10, 13, 10] 0
  rw [Nat.add_zero] at this
  rw [this]
  simp [Lib.occAt, List.isPrefixOf]
theorem join_flat : ∀ (ls : List (List UInt8)), ls ≠ [] → joinL ls ++ [13, 10] = ls.flatMap (fun a => a ++ [13, 10])
  | [], h => absurd rfl h
  | [a], _ => by simp [joinL]
  | a :: b :: r, _ => by
    have ih := join_flat (b :: r) (by simp)
    rw [List.flatMap_cons, ← ih]
    simp [joinL]
/-! fields -/
def hostL : List UInt8 := [104, 111, 115, 116]
def verL : List UInt8 := [72, 84, 84, 80, 47, 49, 46, 49]
def lineOf (f : List UInt8 × List UInt8) : List UInt8 := f.1 ++ 58 :: f.2
def low (f : List UInt8 × List UInt8) : List UInt8 := f.1.map lowB
def tv (f : List UInt8 × List UInt8) : List UInt8 := Lib.trimS f.2 [9, 32]
def fld (f : List UInt8 × List UInt8) : S38 := ⟨B (low f), B (tv f)⟩
def good (f : List UInt8 × List UInt8) : Prop := (lineOf f).length ≤ 1000000000 ∧ tokOk f.1 = true ∧ valOk (tv f) = true ∧ (13 : UInt8) ∉ f.2
theorem tok_no {n : List UInt8} (h : tokOk n = true) (c : UInt8) (hc : tokB c = false) : c ∉ n := by
  intro hm
  unfold tokOk at h
  rw [Bool.and_eq_true] at h
  have := (List.all_eq_true.1 h.1) c hm
  rw [hc] at this
  cases this
theorem trim_le (l cs : List UInt8) : (Lib.trimS l cs).length ≤ l.length := by
  have dw : ∀ (p : UInt8 → Bool) (l : List UInt8), (l.dropWhile p).length ≤ l.length := fun p l => (List.dropWhile_suffix p).length_le
  unfold Lib.trimS Lib.trimRightS Lib.trimLeftS
  first
    | (have h1 := dw (cs.contains ·) l; have h2 := dw (cs.contains ·) (l.dropWhile (cs.contains ·)).reverse; have h3 := dw (cs.contains ·) l.reverse; have h4 := dw (cs.contains ·) (l.reverse.dropWhile (cs.contains ·)).reverse; simp only [List.length_reverse] at *; omega)
def hosts (fs : List (List UInt8 × List UInt8)) : Nat := fs.countP (fun f => low f == hostL)
def hostOf (hx : List UInt8 → ByteArray) : ByteArray → List (List UInt8 × List UInt8) → ByteArray
  | h, [] => h
  | h, f :: fs => hostOf hx (if low f = hostL then hx (tv f) else h) fs
abbrev HR := ByteArray × ByteArray × ByteArray × ByteArray × List S38 × Int × Int
def errR (e : Int) : HR := (B [], B [], B [], B [], [], 0, e)
def fin (E : Int) (m p q hh : ByteArray) (n : Nat) (ho : ByteArray) (fl : List S38) : HR :=
  if n = 1 then (if 32 < fl.length then errR 6 else (m, p, q, if hh.toList = [] then ho else hh, fl, E + 4, 0)) else errR 4
set_option maxHeartbeats 4000000 in
theorem loop_is (E : Int) (hE : 0 ≤ E ∧ E ≤ 100000) (m p q hh : ByteArray) (hx : List UInt8 → ByteArray) (lines : List ByteArray) (hll : lines.length ≤ 100000) :
    ∀ (fs : List (List UInt8 × List UInt8)) (pre : List ByteArray) (n : Nat) (ho : ByteArray) (acc : List S38),
      lines = pre ++ fs.map (fun f => B (lineOf f)) → (∀ f ∈ fs, good f) → (∀ f ∈ fs, low f = hostL → Ev (fun k => head_Host.f k (B (tv f))) (hx (tv f), true)) →
      n ≤ pre.length → acc.length ≤ pre.length →
      Ev (fun k => head_Parse.l0 k E lines (n : Int) (pre.length : Int) ho m p q hh acc) (fin E m p q hh (n + hosts fs) (hostOf hx ho fs) (acc ++ fs.map fld)) := by
  intro fs
  induction fs with
  | nil =>
    intro pre n ho acc hl _ _ hn ha
    have hw : wrap64 (E + 4) = E + 4 := by unfold wrap64; omega
    rw [List.map_nil, List.append_nil] at hl
    subst hl
    refine Ev.step (fun k => by simp only [head_Parse.l0]; rfl) (Ev.neg (by omega) ?_)
    rw [show hosts [] = 0 from rfl, Nat.add_zero, List.map_nil, List.append_nil, hw]
    show Ev _ (fin E m p q hh n ho acc)
    unfold fin
    by_cases h1 : n = 1
    · rw [if_pos h1]
      refine Ev.pos (by omega) ?_
      by_cases h2 : 32 < acc.length
      · rw [if_pos h2]
        exact Ev.pos (by omega) (Ev.ret rfl)
      · rw [if_neg h2]
        refine Ev.neg (by omega) ?_
        by_cases h3 : hh.toList = []
        · rw [if_pos h3]
          simp only [if_pos h3]
          exact Ev.ret rfl
        · rw [if_neg h3]
          simp only [if_neg h3]
          exact Ev.ret rfl
    · rw [if_neg h1]
      exact Ev.neg (by omega) (Ev.ret rfl)
  | cons f fs ih =>
    intro pre n ho acc hl hg hh' hn ha
    obtain ⟨g1, g2, g3, g4⟩ := hg f (by simp)
    have hlen : pre.length + (fs.length + 1) = lines.length := by rw [hl]; simp
    have hrd : rdOf ByteArray.empty lines (pre.length : Int) = B (lineOf f) := by
      rw [hl]
      simp [rdOf]
    have l1 : f.1.length + 1 + f.2.length ≤ 1000000000 := by
      have := g1
      simp [lineOf] at this
      omega
    have c1 : strings_Cut.f (B (lineOf f)) (⟨#[58]⟩ : ByteArray) = some (B f.1, B f.2, true) := by
      have := Cut_is (lineOf f) [58] (by omega)
      rw [show Lib.cut (lineOf f) [58] = (f.1, f.2, true) from cut_one f.1 f.2 58 (tok_no g2 58 (by decide))] at this
      exact this
    have t1 : strings_Trim.f (B f.2) (⟨#[9, 32]⟩ : ByteArray) = some (B (tv f)) := Trim_is f.2 [9, 32] (by omega) (by decide) (by decide)
    have tk := token_is f.1 (by omega)
    rw [g2] at tk
    have htl := trim_le f.2 [9, 32]
    have vl := value_is (tv f) (by unfold tv; omega)
    rw [g3] at vl
    have lo : head_lower.f (B f.1) = some (B (low f)) := Lower_is f.1 (by omega)
    have hw1 : wrap64 ((pre.length : Int) + 1) = ((pre ++ [B (lineOf f)]).length : Int) := by
      rw [List.length_append]
      unfold wrap64
      simp
      omega
    have hw2 : wrap64 ((n : Int) + 1) = ((n + 1 : Nat) : Int) := by unfold wrap64; omega
    have hl' : lines = (pre ++ [B (lineOf f)]) ++ fs.map (fun f => B (lineOf f)) := by rw [hl]; simp
    have hg' : ∀ x ∈ fs, good x := fun x hx => hg x (by simp [hx])
    have hh2 : ∀ x ∈ fs, low x = hostL → Ev (fun k => head_Host.f k (B (tv x))) (hx (tv x), true) := fun x hx' => hh' x (by simp [hx'])
    have hp : (pre ++ [B (lineOf f)]).length = pre.length + 1 := by simp
    have hac2 : (acc ++ [fld f]).length ≤ (pre ++ [B (lineOf f)]).length := by rw [hp, List.length_append]; exact Nat.succ_le_succ ha
    have hn1 : n + 1 ≤ (pre ++ [B (lineOf f)]).length := by rw [hp]; exact Nat.succ_le_succ hn
    have hn0 : n ≤ (pre ++ [B (lineOf f)]).length := by rw [hp]; exact Nat.le_succ_of_le hn
    have hac : acc ++ (f :: fs).map fld = (acc ++ [fld f]) ++ fs.map fld := by simp
    refine Ev.step (fun k => by simp only [head_Parse.l0]; rfl) ?_
    refine Ev.pos (by omega) (Ev.pos (by omega) ?_)
    rw [hrd]
    refine Ev.call c1 (Ev.call t1 (Ev.pos rfl (Ev.bind tk (Ev.pos rfl (Ev.bind vl ?_)))))
    refine Ev.step (fun k => by simp only [head_Parse.j2]; rfl) ?_
    refine Ev.neg (by decide) (Ev.call lo (Ev.pos (by omega) (Ev.put (Ev.call lo ?_))))
    rw [hac]
    by_cases hq : low f = hostL
    · refine Ev.pos (by rw [B_toList]; exact hq) (Ev.bind (hh' f (by simp) hq) (Ev.pos rfl ?_))
      have h := ih (pre ++ [B (lineOf f)]) (n + 1) (hx (tv f)) (acc ++ [fld f]) hl' hg' hh2 hn1 hac2
      rw [show hostOf hx ho (f :: fs) = hostOf hx (hx (tv f)) fs by simp [hostOf, hq], show n + hosts (f :: fs) = n + 1 + hosts fs by simp [hosts, hq]; omega]
      rw [hw1, hw2]
      exact h
    · refine Ev.neg (by rw [B_toList]; exact hq) ?_
      have h := ih (pre ++ [B (lineOf f)]) n ho (acc ++ [fld f]) hl' hg' hh2 hn0 hac2
      rw [show hostOf hx ho (f :: fs) = hostOf hx ho fs by simp [hostOf, hq], show n + hosts (f :: fs) = n + hosts fs by simp [hosts, hq]]
      rw [hw1]
      exact h
def firstL (m t : List UInt8) : List UInt8 := m ++ 32 :: (t ++ 32 :: verL)
def linesL (m t : List UInt8) (fs : List (List UInt8 × List UInt8)) : List (List UInt8) := firstL m t :: fs.map lineOf
def headL (m t : List UInt8) (fs : List (List UInt8 × List UInt8)) : List UInt8 := joinL (linesL m t fs) ++ [13, 10, 13, 10]
theorem lines_ok (m t : List UInt8) (fs : List (List UInt8 × List UInt8)) (hm : tokOk m = true) (ht : (13 : UInt8) ∉ t) (hg : ∀ f ∈ fs, good f) : ∀ a ∈ linesL m t fs, (13 : UInt8) ∉ a ∧ a ≠ [] := by
  intro a ha
  rcases List.mem_cons.1 ha with rfl | ha
  · have h13 := tok_no hm 13 (by decide)
    refine ⟨?_, by simp [firstL]⟩
    simp [firstL, verL, h13, ht]
  · obtain ⟨f, hf, rfl⟩ := List.mem_map.1 ha
    obtain ⟨g1, g2, g3, g4⟩ := hg f hf
    have h13 := tok_no g2 13 (by decide)
    exact ⟨by simp [lineOf, h13, g4], by simp [lineOf]⟩
theorem head_flat (m t : List UInt8) (fs : List (List UInt8 × List UInt8)) : headL m t fs = (linesL m t fs).flatMap (fun a => a ++ [13, 10]) ++ [13, 10] := by
  rw [← join_flat _ (by simp [linesL])]
  simp [headL]
/-- THE LAW: what Parse tells of well-formed lines -/
theorem parse_is (m t : List UInt8) (p q hh : ByteArray) (fs : List (List UInt8 × List UInt8)) (hx : List UInt8 → ByteArray) (z : List UInt8) (hz : z.length ≤ 1000000000)
    (hm : tokOk m = true) (ht13 : (13 : UInt8) ∉ t) (ht32 : (32 : UInt8) ∉ t) (ht : Ev (fun k => head_target.f k (B t)) (p, q, hh, true))
    (hg : ∀ f ∈ fs, good f) (hh' : ∀ f ∈ fs, low f = hostL → Ev (fun k => head_Host.f k (B (tv f))) (hx (tv f), true)) (hL : (headL m t fs).length ≤ 2048) (hn : fs.length ≤ 5000) :
    Ev (fun k => head_Parse.f k (bytesOf (B (headL m t fs ++ z)))) (fin ((joinL (linesL m t fs)).length : Int) (B m) p q hh (hosts fs) (hostOf hx (B []) fs) (fs.map fld)) := by
  have hok := lines_ok m t fs hm ht13 hg
  have hlen : (headL m t fs).length = (joinL (linesL m t fs)).length + 4 := by simp [headL]
  generalize hN : (headL m t fs ++ z).length = N
  have hN2 : N = (headL m t fs).length + z.length := by rw [← hN, List.length_append]
  have hl : ((headL m t fs ++ z).map (fun b => (b.toNat : Int))).length = N := by rw [List.length_map, hN]
  obtain ⟨M, hM, hM1, hM2⟩ : ∃ M : Nat, mn (N : Int) 2048 = (M : Int) ∧ M ≤ N ∧ (headL m t fs).length ≤ M := by
    unfold mn
    split
    · exact ⟨2048, rfl, by omega, by omega⟩
    · exact ⟨N, rfl, Nat.le_refl _, by omega⟩
  unfold head_Parse.f
  rw [N8_B, hl, hM]
  refine Ev.pos (by omega) (Ev.pos (by omega) ?_)
  rw [Int.toNat_natCast, ← List.map_take]
  have htk : (headL m t fs ++ z).take M = joinL (linesL m t fs) ++ [13, 10, 13, 10] ++ z.take (M - (headL m t fs).length) := by
    rw [List.take_append, List.take_of_length_le hM2]
    rfl
  have hix : bytes_Index.f (((headL m t fs ++ z).take M).map (fun b => (b.toNat : Int))) ([13, 10, 13, 10] : List Int) = some ((joinL (linesL m t fs)).length : Int) := by
    rw [show ([13, 10, 13, 10] : List Int) = ([13, 10, 13, 10] : List UInt8).map (fun b => (b.toNat : Int)) from rfl, Index_is _ _ (by rw [List.length_take]; omega) (by decide) (by decide), htk, join_index _ hok]
  refine Ev.call hix (Ev.neg (by omega) (Ev.pos (by omega) (Ev.pos (by omega) ?_)))
  rw [Int.toNat_natCast, ← List.map_take, strOf_N8]
  have htj : (headL m t fs ++ z).take (joinL (linesL m t fs)).length = joinL (linesL m t fs) := by
    unfold headL
    rw [List.append_assoc, List.take_left]
  rw [htj]
  have hsp : strings_Split.f (B (joinL (linesL m t fs))) (⟨#[13, 10]⟩ : ByteArray) = some (B (firstL m t) :: fs.map (fun f => B (lineOf f))) := by
    have := Split_is (joinL (linesL m t fs)) [13, 10] (by omega) (by decide)
    rw [split_join _ (by simp [linesL]) (fun a ha => (hok a ha).1)] at this
    rw [show (linesL m t fs).map B = B (firstL m t) :: fs.map (fun f => B (lineOf f)) by simp [linesL]] at this
    exact this
  have hfl : (firstL m t).length ≤ (joinL (linesL m t fs)).length := by
    unfold linesL
    cases fs.map lineOf with
    | nil => exact Nat.le_refl _
    | cons b r => simp [joinL]
  have hfl2 : (t ++ 32 :: verL).length ≤ (firstL m t).length := by simp [firstL]; omega
  have c1 : strings_Cut.f (B (firstL m t)) (⟨#[32]⟩ : ByteArray) = some (B m, B (t ++ 32 :: verL), true) := by
    have := Cut_is (firstL m t) [32] (by omega)
    rw [show Lib.cut (firstL m t) [32] = (m, t ++ 32 :: verL, true) from cut_one _ _ 32 (tok_no hm 32 (by decide))] at this
    exact this
  have c2 : strings_Cut.f (B (t ++ 32 :: verL)) (⟨#[32]⟩ : ByteArray) = some (B t, B verL, true) := by
    have := Cut_is (t ++ 32 :: verL) [32] (by omega)
    rw [cut_one _ _ 32 ht32] at this
    exact this
  have hml : m.length ≤ (firstL m t).length := by simp [firstL]
  have tk := token_is m (by omega)
  rw [hm] at tk
  refine Ev.call hsp (Ev.pos (by simp) (Ev.call c1 (Ev.call c2 (Ev.bind ht (Ev.pos rfl (Ev.bind tk (Ev.pos rfl ?_)))))))
  refine Ev.step (fun k => by simp only [head_Parse.j0]; rfl) ?_
  refine Ev.neg (by rw [B_toList]; decide) ?_
  have h := loop_is ((joinL (linesL m t fs)).length : Int) ⟨by omega, by omega⟩ (B m) p q hh hx (B (firstL m t) :: fs.map (fun f => B (lineOf f))) (by simp; omega) fs [B (firstL m t)] 0 (B []) [] rfl hg hh' (by omega) (by simp)
  rw [Nat.zero_add, List.nil_append] at h
  exact h
end Go.Proofs.YtabkdmfnafeaeaaDoor.HP
