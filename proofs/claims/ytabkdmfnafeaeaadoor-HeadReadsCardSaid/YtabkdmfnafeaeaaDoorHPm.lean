/- Plain facts for the head: the reference's Parse answers as the program's does (the whole of it). -/
import Derived.Test.YtabkdmfnafeaeaaDoorHPzk
import Derived.Test.YtabkdmfnafeaeaaDoorRx36
namespace Go.Proofs.YtabkdmfnafeaeaaDoor.HP
open Go.RowKit Go.Proofs.YtabkdmfnafeaeaaDoor.R Go.Proofs.YtabkdmfnafeaeaaDoorW.PrintWords Go.Proofs.YtabkdmfnafeaeaaDoorW.PrintLast Go.Proofs.YtabkdmfnafeaeaaDoorW.PrintMore
/-! the first line -/
theorem begins_is (p : List UInt8) : tollgateref09_begins.f (B p) (⟨#[104, 116, 116, 112, 58, 47, 47]⟩ : ByteArray) = some (Lib.hasPrefix p httpL) := by
  unfold tollgateref09_begins.f
  have hs : (⟨#[104, 116, 116, 112, 58, 47, 47]⟩ : ByteArray).size = 7 := rfl
  have ht : (⟨#[104, 116, 116, 112, 58, 47, 47]⟩ : ByteArray).toList = httpL := B_toList httpL
  have h := Lib.hasPrefix_of_take p httpL
  rw [hs, B_size, ht]
  by_cases h7 : 7 ≤ p.length
  · rw [if_pos (show ((p.length : Nat) : Int) ≥ ((7 : Nat) : Int) by omega), if_pos (by omega), if_pos (show ((7 : Nat) : Int) ≤ (p.length : Int) by omega), Int.toNat_natCast, B_extract, B_toList, List.drop_zero, ← h]
    have : decide (httpL.length ≤ p.length) = true := decide_eq_true h7
    rw [this, Bool.true_and]
    rfl
  · rw [if_neg (show ¬ ((p.length : Nat) : Int) ≥ ((7 : Nat) : Int) by omega), ← h]
    have : decide (httpL.length ≤ p.length) = false := decide_eq_false h7
    rw [this, Bool.false_and]
def okR (ok : Bool) (m : List UInt8) (t : List UInt8 × List UInt8 × List UInt8 × Bool) (r : Bool × ByteArray × ByteArray × ByteArray × ByteArray) : Prop :=
  r.1 = ok ∧ (ok = true → r = (true, B m, B t.1, B t.2.1, B t.2.2.1))
theorem ref_end (m p q hh : List UInt8) (hp : p.length ≤ 1000000) (hq : q.length ≤ 1000000) : ∃ r, Ev (fun k => (tollgateref09_Path.f k (B p)).bind fun t => if t = true then ((tollgateref09_Query.f k (B q)).bind fun t2 => (some (t2, B m, B p, B q, B hh))) else (some (false, B m, B p, B q, B hh))) r ∧ okR (endS p q hh).2.2.2 m (endS p q hh) r := by
  unfold endS
  by_cases h : pathL p = true
  · refine ⟨_, Ev.bind (Path_is p (by omega)) (Ev.pos h (Ev.bind (Query_is q (by omega)) (Ev.ret rfl))), ?_⟩
    rw [h, Bool.true_and]
    exact ⟨rfl, fun ht => by simp only at ht; rw [ht]⟩
  · refine ⟨_, Ev.bind (Path_is p (by omega)) (Ev.neg h (Ev.ret rfl)), ?_⟩
    rw [Bool.eq_false_iff.2 h, Bool.false_and]
    exact ⟨rfl, fun ht => by cases ht⟩
theorem ref_j2 (m rest q : List UInt8) (hl : rest.length ≤ 1000000) (hq : q.length ≤ 1000000) (s2 s3 s4 : ByteArray) (at_ : Nat) (ha : at_ ≤ rest.length) (hk : (Lib.indexByte rest 47 = (at_ : Int) ∧ at_ < rest.length) ∨ (Lib.indexByte rest 47 = -1 ∧ at_ = rest.length)) :
    ∃ r, Ev (fun k => tollgateref09_first.j2 k (B rest) (B q) (at_ : Int) (B m) s2 s3 s4 []) r ∧ okR (farS rest q).2.2.2 m (farS rest q) r := by
  have x1 : (B rest).extract 0 ((at_ : Int)).toNat = B (rest.take at_) := by rw [Int.toNat_natCast, B_extract, List.drop_zero, Nat.sub_zero]
  have x2 : (B rest).extract ((at_ : Int)).toNat rest.length = B (rest.drop at_) := by
    rw [Int.toNat_natCast, B_extract, List.take_of_length_le (by simp)]
  have hx := rHost_is (rest.take at_) (by rw [List.length_take]; omega)
  have hF : farS rest q = (if (hostS (rest.take at_)).2 = true then endS (if at_ = rest.length then [47] else rest.drop at_) q (hostS (rest.take at_)).1 else ([], [], [], false)) := by
    unfold farS
    simp only
    rcases hk with ⟨h1, h2⟩ | ⟨h1, h2⟩
    · have hneg : ¬ ((at_ : Int) < 0) := by omega
      rw [h1, if_neg hneg, if_neg hneg, Int.toNat_natCast, if_neg (show ¬ at_ = rest.length by omega)]
    · have hpos : (-1 : Int) < 0 := by decide
      rw [h1, if_pos hpos, if_pos hpos, if_pos h2, h2, List.take_length]
  rw [hF]
  by_cases hb : (hostS (rest.take at_)).2 = true
  · rw [if_pos hb]
    by_cases he : at_ = rest.length
    · rw [if_pos he]
      obtain ⟨r, h1, h2⟩ := ref_end m [47] q (hostS (rest.take at_)).1 (by simp) hq
      refine ⟨r, ?_, h2⟩
      refine Ev.step (fun k => by simp only [tollgateref09_first.j2]; rfl) ?_
      rw [x1, B_size, x2]
      refine Ev.pos (by omega) (Ev.pos (by omega) (Ev.bind hx (Ev.pos hb (Ev.pos ?_ h1))))
      rw [B_toList, he, List.drop_length]
    · rw [if_neg he]
      obtain ⟨r, h1, h2⟩ := ref_end m (rest.drop at_) q (hostS (rest.take at_)).1 (by rw [List.length_drop]; omega) hq
      refine ⟨r, ?_, h2⟩
      refine Ev.step (fun k => by simp only [tollgateref09_first.j2]; rfl) ?_
      rw [x1, B_size, x2]
      refine Ev.pos (by omega) (Ev.pos (by omega) (Ev.bind hx (Ev.pos hb (Ev.neg ?_ h1))))
      rw [B_toList]
      intro hn
      have := congrArg List.length hn
      rw [List.length_drop] at this
      simp at this
      omega
  · rw [if_neg hb]
    refine ⟨(false, B m, s2, s3, s4), ?_, rfl, fun h => by cases h⟩
    refine Ev.step (fun k => by simp only [tollgateref09_first.j2]; rfl) ?_
    rw [x1, B_size, x2]
    exact Ev.pos (by omega) (Ev.pos (by omega) (Ev.bind hx (Ev.neg hb (Ev.ret rfl))))
theorem ref_l0 (m rest q : List UInt8) (hl : rest.length ≤ 1000000) (hq : q.length ≤ 1000000) (s2 s3 s4 : ByteArray) : ∀ (d i : Nat), i + d = rest.length → (47 : UInt8) ∉ rest.take i →
    ∃ r, Ev (fun k => tollgateref09_first.l0 k (B rest) (B q) (i : Int) (B m) s2 s3 s4 []) r ∧ okR (farS rest q).2.2.2 m (farS rest q) r := by
  intro d
  induction d with
  | zero =>
    intro i hi hn
    rw [List.take_of_length_le (by omega)] at hn
    have hk : Lib.indexByte rest 47 = -1 := by rw [← Lib.index_one]; exact index_no _ 47 [] hn
    obtain ⟨r, h1, h2⟩ := ref_j2 m rest q hl hq s2 s3 s4 i (by omega) (.inr ⟨hk, by omega⟩)
    exact ⟨r, Ev.step (fun k => by simp only [tollgateref09_first.l0]; rfl) (Ev.neg (by rw [B_size]; omega) h1), h2⟩
  | succ d ih =>
    intro i hi hn
    have hlt : i < rest.length := by omega
    have hw := wrap_succ i (by omega)
    by_cases h47 : rest[i] = 47
    · have hk : Lib.indexByte rest 47 = (i : Int) := by
        have hs : rest = rest.take i ++ 47 :: rest.drop (i + 1) := by
          conv => lhs; rw [← List.take_append_drop i rest, List.drop_eq_getElem_cons hlt, h47]
        rw [← Lib.index_one]
        conv => lhs; rw [hs]
        rw [index_one _ _ 47 hn, List.length_take, Nat.min_eq_left (by omega)]
      obtain ⟨r, h1, h2⟩ := ref_j2 m rest q hl hq s2 s3 s4 i (by omega) (.inl ⟨hk, hlt⟩)
      refine ⟨r, Ev.step (fun k => by simp only [tollgateref09_first.l0]; rfl) (Ev.pos (by rw [B_size]; omega) (Ev.pos (by omega) ?_)), h2⟩
      rw [B_bt rest i hlt]
      exact Ev.pos (by rw [h47]; rfl) h1
    · obtain ⟨r, h1, h2⟩ := ih (i + 1) (by omega) (by
        rw [List.take_succ_eq_append_getElem hlt]
        intro hm
        rcases List.mem_append.1 hm with h | h
        · exact hn h
        · exact h47 (List.mem_singleton.1 h).symm)
      refine ⟨r, Ev.step (fun k => by simp only [tollgateref09_first.l0]; rfl) (Ev.pos (by rw [B_size]; omega) (Ev.pos (by omega) ?_)), h2⟩
      rw [B_bt rest i hlt, hw]
      exact Ev.neg (fun he => h47 (UInt8.toNat_inj.1 (by have : (47 : UInt8).toNat = 47 := rfl; omega))) h1
theorem ref_j0 (m t : List UInt8) (ht : t.length ≤ 1000000) (s1 s2 s3 s4 : ByteArray) (h4 : s4 = B []) : ∃ r, Ev (fun k => tollgateref09_first.j0 k (B m) (B t) false s1 s2 s3 s4 []) r ∧ okR (targetS t).2.2.2 m (targetS t) r := by
  subst h4
  have hc := rCut_is 63 t (by omega)
  obtain ⟨l1, l2⟩ := cut_le t [63]
  rw [cut_is] at l1 l2
  have hT : targetS t = if Lib.hasPrefix (cutC 63 t).1 httpL = true then farS (Lib.trimPrefix (cutC 63 t).1 httpL) (cutC 63 t).2.1 else endS (cutC 63 t).1 (cutC 63 t).2.1 [] := by
    unfold targetS
    rw [cut_is]
  have hbg := begins_is (cutC 63 t).1
  rw [hT]
  generalize (cutC 63 t).1 = p at *
  generalize (cutC 63 t).2.1 = q at *
  by_cases hx : Lib.hasPrefix p httpL = true
  · rw [if_pos hx]
    have h7 : 7 ≤ p.length := Lib.hasPrefix_le hx
    have hd : Lib.trimPrefix p httpL = p.drop 7 := by
      unfold Lib.trimPrefix
      rw [if_pos hx]
      rfl
    have he : (B p).extract 7 p.length = B (p.drop 7) := by
      rw [B_extract, List.take_of_length_le (by simp)]
    rw [hd]
    obtain ⟨r, h1, h2⟩ := ref_l0 m (p.drop 7) q (by rw [List.length_drop]; omega) (by omega) s2 s3 (B []) (p.drop 7).length 0 (by omega) (by simp)
    refine ⟨r, Ev.step (fun k => by simp only [tollgateref09_first.j0]; rfl) (Ev.neg (by simp) (Ev.bind hc (Ev.call hbg (Ev.pos hx ?_)))), h2⟩
    show Ev (fun k => if (7 : Int) ≤ ((B p).size : Int) then _ else _) r
    rw [B_size, he]
    exact Ev.pos (by omega) h1
  · rw [if_neg hx]
    obtain ⟨r, h1, h2⟩ := ref_end m p q [] (by omega) (by omega)
    exact ⟨r, Ev.step (fun k => by simp only [tollgateref09_first.j0]; rfl) (Ev.neg (by simp) (Ev.bind hc (Ev.call hbg (Ev.neg hx h1)))), h2⟩
theorem cut_none (c : UInt8) (l : List UInt8) (h : (cutC c l).2.2 = false) : (cutC c l).2.1 = [] := by
  rcases at_first c l with h1 | ⟨a, b, rfl, ha⟩
  · rw [cutC_no c l h1]
  · rw [cutC_one c b a ha] at h
    cases h
theorem ref_first_core (ln m rest t ver : List UInt8) (ok1 ok2 : Bool) (c1 : Ev (fun k => tollgateref09_cut.f k (B ln) (((32 : UInt8).toNat : Nat) : Int)) (B m, B rest, ok1)) (c2 : Ev (fun k => tollgateref09_cut.f k (B rest) (((32 : UInt8).toNat : Nat) : Int)) (B t, B ver, ok2))
    (n1 : ok1 = false → rest = []) (n2 : ok2 = false → ver = []) (n3 : rest = [] → ver = []) (hml : m.length ≤ 1000000) (htl : t.length ≤ 1000000) : ∃ r, Ev (fun k => ref_first.f k (B ln)) r ∧
    okR (decide ((targetS t).2.2.2 = true ∧ tokOk m = true ∧ ver = verL)) m (targetS t) r := by
  have hbad : ∀ s1 s2 s3 s4 : ByteArray, Ev (fun k => tollgateref09_first.j0 k (B m) (B t) true s1 s2 s3 s4 []) (false, s1, s2, s3, s4) := fun s1 s2 s3 s4 => Ev.step (fun k => by simp only [tollgateref09_first.j0]; rfl) (Ev.pos (by trivial) (Ev.ret rfl))
  have hno : ver ≠ verL ∨ ¬ tokOk m = true → ∀ s1 s2 s3 s4 : ByteArray, okR (decide ((targetS t).2.2.2 = true ∧ tokOk m = true ∧ ver = verL)) m (targetS t) (false, s1, s2, s3, s4) := by
    intro h s1 s2 s3 s4
    rw [decide_eq_false (fun hh => h.elim (fun h => h hh.2.2) (fun h => h hh.2.1))]
    exact ⟨rfl, fun h => by cases h⟩
  have hv0 : ver = [] → ver ≠ verL := by rintro rfl; decide
  show ∃ r, Ev (fun k => tollgateref09_first.f k (B ln) (B []) (B []) (B []) (B []) []) r ∧ _
  unfold tollgateref09_first.f
  cases ok1 with
  | false =>
    refine ⟨_, Ev.bind c1 (Ev.bind c2 (Ev.neg (by simp) (hbad _ _ _ _))), hno (.inl (hv0 (n3 (n1 rfl)))) _ _ _ _⟩
  | true =>
    cases ok2 with
    | false => exact ⟨_, Ev.bind c1 (Ev.bind c2 (Ev.pos rfl (Ev.neg (by simp) (hbad _ _ _ _)))), hno (.inl (hv0 (n2 rfl))) _ _ _ _⟩
    | true =>
      by_cases hm : tokOk m = true
      · by_cases hv : ver = verL
        · obtain ⟨r, h1, h2⟩ := ref_j0 m t (by omega) (B []) (B []) (B []) (B []) rfl
          refine ⟨r, Ev.bind c1 (Ev.bind c2 (Ev.pos rfl (Ev.pos rfl (Ev.bind (Token_is m (by omega)) (Ev.pos hm ?_))))), ?_⟩
          · show Ev (fun k => tollgateref09_first.j0 k (B m) (B t) ((B ver).toList != ([72, 84, 84, 80, 47, 49, 46, 49] : List UInt8)) (B []) (B []) (B []) (B []) []) r
            rw [B_toList, show (ver != ([72, 84, 84, 80, 47, 49, 46, 49] : List UInt8)) = false by rw [hv]; decide]
            exact h1
          · have : decide ((targetS t).2.2.2 = true ∧ tokOk m = true ∧ ver = verL) = (targetS t).2.2.2 := by
              rw [Bool.eq_iff_iff, decide_eq_true_eq]
              exact ⟨fun h => h.1, fun h => ⟨h, hm, hv⟩⟩
            rw [this]
            exact h2
        · refine ⟨_, Ev.bind c1 (Ev.bind c2 (Ev.pos rfl (Ev.pos rfl (Ev.bind (Token_is m (by omega)) (Ev.pos hm ?_))))), hno (.inl hv) (B []) (B []) (B []) (B [])⟩
          show Ev (fun k => tollgateref09_first.j0 k (B m) (B t) ((B ver).toList != ([72, 84, 84, 80, 47, 49, 46, 49] : List UInt8)) (B []) (B []) (B []) (B []) []) _
          rw [B_toList, show (ver != ([72, 84, 84, 80, 47, 49, 46, 49] : List UInt8)) = true by simpa [verL] using hv]
          exact hbad _ _ _ _
      · exact ⟨_, Ev.bind c1 (Ev.bind c2 (Ev.pos rfl (Ev.pos rfl (Ev.bind (Token_is m (by omega)) (Ev.neg hm (hbad _ _ _ _)))))), hno (.inr hm) _ _ _ _⟩
theorem ref_first_is (ln : List UInt8) (hl : ln.length ≤ 1000000) : ∃ r, Ev (fun k => ref_first.f k (B ln)) r ∧
    okR (decide ((targetS (Lib.cut (Lib.cut ln [32]).2.1 [32]).1).2.2.2 = true ∧ tokOk (Lib.cut ln [32]).1 = true ∧ (Lib.cut (Lib.cut ln [32]).2.1 [32]).2.1 = verL)) (Lib.cut ln [32]).1 (targetS (Lib.cut (Lib.cut ln [32]).2.1 [32]).1) r := by
  obtain ⟨a1, a2⟩ := cut_le ln [32]
  obtain ⟨b1, b2⟩ := cut_le (Lib.cut ln [32]).2.1 [32]
  have c1 := rCut_is 32 ln (by omega)
  have n1 := cut_none 32 ln
  rw [← cut_is] at c1 n1
  have c2 := rCut_is 32 (Lib.cut ln [32]).2.1 (by omega)
  have n2 := cut_none 32 (Lib.cut ln [32]).2.1
  have n3 : (Lib.cut ln [32]).2.1 = [] → (cutC 32 (Lib.cut ln [32]).2.1).2.1 = [] := by intro h; rw [h]; rfl
  rw [← cut_is] at c2 n2 n3
  exact ref_first_core ln _ _ _ _ _ _ c1 c2 n1 n2 n3 (by omega) (by omega)
/-! the fields -/
theorem loopS_two (E : Int) (m p q hh : ByteArray) : ∀ (ls : List (List UInt8)) (n : Nat) (ho : List UInt8) (acc : List Fd), 2 ≤ n → loopS E m p q hh ls n ho acc = errR 4
  | [], n, ho, acc, hn => by
    show fin E m p q hh n (B ho) (acc.map sF) = _
    unfold fin
    rw [if_neg (by omega)]
  | ln :: ls, n, ho, acc, hn => by
    rw [loopS]
    cases lineS ln with
    | none => rfl
    | some f =>
      simp only
      split
      · split
        · exact loopS_two E m p q hh ls (n + 1) _ _ (by omega)
        · rfl
      · exact loopS_two E m p q hh ls n _ _ hn
def cur (hh ho : List UInt8) (n : Nat) : ByteArray := if n = 0 then B hh else if hh = [] then B ho else B hh
set_option maxHeartbeats 4000000 in
theorem ref_loop (E : Int) (hE : 0 ≤ E ∧ E ≤ 100000) (m p q hh : List UInt8) (lines : List ByteArray) (hll : lines.length ≤ 100000) :
    ∀ (ls : List (List UInt8)) (pre : List ByteArray) (n : Nat) (ho : List UInt8) (acc : List Fd),
      lines = pre ++ ls.map B → (∀ l ∈ ls, l.length ≤ 1000000000) → n ≤ 1 → acc.length ≤ pre.length →
      Ev (fun k => tollgateref09_Parse.l1 k E lines (n : Int) (pre.length : Int) (B m) (B p) (B q) (cur hh ho n) (acc.map sF)) (loopS E (B m) (B p) (B q) (B hh) ls n ho acc) := by
  intro ls
  induction ls with
  | nil =>
    intro pre n ho acc hl _ hn ha
    have hw : wrap64 (E + 4) = E + 4 := by unfold wrap64; omega
    rw [List.map_nil, List.append_nil] at hl
    subst hl
    have hal : (acc.map sF).length = acc.length := List.length_map ..
    refine Ev.step (fun k => by simp only [tollgateref09_Parse.l1]; rfl) (Ev.neg (by omega) ?_)
    rw [hw]
    clear hw
    show Ev _ (fin E (B m) (B p) (B q) (B hh) n (B ho) (acc.map sF))
    unfold fin
    by_cases h1 : n = 1
    · rw [if_pos h1]
      refine Ev.pos (by omega) ?_
      by_cases h2 : 32 < (acc.map sF).length
      · rw [if_pos h2]
        exact Ev.pos (by omega) (Ev.ret rfl)
      · rw [if_neg h2]
        refine Ev.neg (by omega) (Ev.ret ?_)
        unfold cur
        rw [if_neg (by omega), B_toList]
    · rw [if_neg h1]
      exact Ev.neg (by omega) (Ev.ret rfl)
  | cons ln ls ih =>
    intro pre n ho acc hl hg hn ha
    have g1 := hg ln (by simp)
    have hlen : pre.length + (ls.length + 1) = lines.length := by rw [hl]; simp
    have hrd : rdOf ByteArray.empty lines (pre.length : Int) = B ln := by
      rw [hl]
      simp [rdOf]
    have c1 := rCut_is 58 ln (by omega)
    rw [← cut_is] at c1
    obtain ⟨le1, le2⟩ := cut_le ln [58]
    have t1 := trimmed_is (Lib.cut ln [58]).2.1 (by omega)
    have htl := trim_le (Lib.cut ln [58]).2.1 [9, 32]
    have tk := Token_is (Lib.cut ln [58]).1 (by omega)
    have vl := Value_is (Lib.trimS (Lib.cut ln [58]).2.1 [9, 32]) (by omega)
    have lo := rLower_is (Lib.cut ln [58]).1 (by omega)
    have hx := rHost_is (Lib.trimS (Lib.cut ln [58]).2.1 [9, 32]) (by omega)
    have hw1 : wrap64 ((pre.length : Int) + 1) = ((pre ++ [B ln]).length : Int) := by
      rw [List.length_append]
      unfold wrap64
      simp
      omega
    have hw2 : wrap64 ((n : Int) + 1) = ((n + 1 : Nat) : Int) := by unfold wrap64; omega
    have hl' : lines = (pre ++ [B ln]) ++ ls.map B := by rw [hl]; simp
    have hg' : ∀ x ∈ ls, x.length ≤ 1000000000 := fun x hx => hg x (by simp [hx])
    have hp : (pre ++ [B ln]).length = pre.length + 1 := by simp
    rw [loopS]
    generalize hc1 : (Lib.cut ln [58]).1 = nm at *
    generalize hc2 : (Lib.cut ln [58]).2.1 = v0 at *
    generalize hc3 : (Lib.cut ln [58]).2.2 = is at *
    generalize hv : Lib.trimS v0 [9, 32] = v at *
    have hline : lineS ln = if is = true ∧ tokOk nm = true ∧ valOk v = true then some (nm.map lowB, v) else none := by
      unfold lineS
      rw [hc1, hc2, hc3, hv]
    rw [hline]
    have hac2 : (acc ++ [(nm.map lowB, v)]).length ≤ (pre ++ [B ln]).length := by rw [hp, List.length_append]; exact Nat.succ_le_succ ha
    have hacl : (acc.map sF).length = acc.length := List.length_map ..
    have hbad : Ev (fun k => tollgateref09_Parse.j4 k E lines (n : Int) (pre.length : Int) (B nm) (B v) true (B m) (B p) (B q) (cur hh ho n) (acc.map sF)) (errR 4) := Ev.step (fun k => by simp only [tollgateref09_Parse.j4]; rfl) (Ev.pos (by trivial) (Ev.ret rfl))
    refine Ev.step (fun k => by simp only [tollgateref09_Parse.l1]; rfl) ?_
    refine Ev.pos (by omega) (Ev.pos (by omega) ?_)
    rw [hrd]
    refine Ev.bind c1 (Ev.bind t1 ?_)
    cases is with
    | false =>
      rw [if_neg (by simp)]
      exact Ev.neg (by simp) hbad
    | true =>
      refine Ev.pos rfl (Ev.bind tk ?_)
      cases htk : tokOk nm with
      | false =>
        rw [if_neg (by simp)]
        exact Ev.neg (by simp) hbad
      | true =>
        refine Ev.pos rfl (Ev.bind vl ?_)
        cases hvl : valOk v with
        | false =>
          rw [if_neg (by simp)]
          exact hbad
        | true =>
          rw [if_pos ⟨rfl, rfl, rfl⟩]
          show Ev _ (if nm.map lowB = hostL then (if (hostS v).2 = true then loopS E (B m) (B p) (B q) (B hh) ls (n + 1) (hostS v).1 (acc ++ [(nm.map lowB, v)]) else errR 4) else loopS E (B m) (B p) (B q) (B hh) ls n ho (acc ++ [(nm.map lowB, v)]))
          refine Ev.step (fun k => by simp only [tollgateref09_Parse.j4]; rfl) ?_
          refine Ev.neg (by decide) (Ev.bind lo (Ev.pos (by omega) (Ev.put ?_)))
          have hsnoc : acc.map sF ++ [⟨B (nm.map lowB), B v⟩] = (acc ++ [(nm.map lowB, v)]).map sF := by simp [sF]
          rw [hsnoc]
          have hbad5 : ∀ (x : Int) (y : ByteArray), Ev (fun k => tollgateref09_Parse.j5 k E lines x (pre.length : Int) y true (B m) (B p) (B q) (cur hh ho n) ((acc ++ [(nm.map lowB, v)]).map sF)) (errR 4) := fun x y => Ev.step (fun k => by simp only [tollgateref09_Parse.j5]; rfl) (Ev.pos (by trivial) (Ev.ret rfl))
          by_cases hq : nm.map lowB = hostL
          · rw [if_pos hq]
            refine Ev.pos (by rw [B_toList]; exact hq) (Ev.bind hx ?_)
            cases hb : (hostS v).2 with
            | false =>
              rw [if_neg (by simp)]
              exact Ev.neg (by show ¬ (hostR v).2 = true; unfold hostR; simp [hb]) (hbad5 _ _)
            | true =>
              rw [if_pos rfl]
              refine Ev.pos (by show (hostR v).2 = true; exact hb) ?_
              rw [hw2]
              by_cases hn0 : n = 0
              · subst hn0
                have hI := ih (pre ++ [B ln]) 1 (hostS v).1 (acc ++ [(nm.map lowB, v)]) hl' hg' (by omega) hac2
                rw [show decide (((0 + 1 : Nat) : Int) > 1) = false from by decide]
                refine Ev.step (fun k => by simp only [tollgateref09_Parse.j5]; rfl) (Ev.neg (by simp) ?_)
                rw [hw1]
                show Ev (fun k => if (cur hh ho 0).toList = [] then tollgateref09_Parse.l1 k E lines ((0 + 1 : Nat) : Int) ((pre ++ [B ln]).length : Int) (B m) (B p) (B q) (hostR v).1 ((acc ++ [(nm.map lowB, v)]).map sF) else tollgateref09_Parse.l1 k E lines ((0 + 1 : Nat) : Int) ((pre ++ [B ln]).length : Int) (B m) (B p) (B q) (cur hh ho 0) ((acc ++ [(nm.map lowB, v)]).map sF)) _
                have hc0 : cur hh ho 0 = B hh := rfl
                rw [hc0, B_toList]
                by_cases he : hh = []
                · have hc : cur hh (hostS v).1 1 = (hostR v).1 := by unfold cur; rw [if_neg (by omega), if_pos he]; rfl
                  rw [hc] at hI
                  exact Ev.pos he hI
                · have hc : cur hh (hostS v).1 1 = B hh := by unfold cur; rw [if_neg (by omega), if_neg he]
                  rw [hc] at hI
                  exact Ev.neg he hI
              · rw [loopS_two _ _ _ _ _ _ _ _ _ (by omega), show decide (((n + 1 : Nat) : Int) > 1) = true from decide_eq_true (by omega)]
                exact hbad5 _ _
          · rw [if_neg hq]
            refine Ev.neg (by rw [B_toList]; exact hq) ?_
            have hI := ih (pre ++ [B ln]) n ho (acc ++ [(nm.map lowB, v)]) hl' hg' hn hac2
            rw [hw1]
            exact hI
/-! where the head ends -/
def end4 : List UInt8 := [13, 10, 13, 10]
theorem ref_tail (b : List UInt8) (i : Int) : Ev (fun k => tollgateref09_Parse.j1 k (bytesOf (B b)) (Lib.index (b.take 2048) [13, 10, 13, 10]) i false) (parseS b) := by
  have hroom := Lib.index_room (b.take 2048) [13, 10, 13, 10]
  rw [List.length_take] at hroom
  have hbl : (bytesOf (B b)).length = b.length := N8_len b
  unfold parseS
  generalize Lib.index (b.take 2048) [13, 10, 13, 10] = e at *
  refine Ev.step (fun k => by simp only [tollgateref09_Parse.j1]; rfl) (Ev.neg (by simp) ?_)
  rw [hbl]
  by_cases he : e < 0
  · rw [if_pos he]
    refine Ev.pos he (Ev.step (fun k => by simp only [tollgateref09_Parse.j2]; rfl) ?_)
    by_cases h2 : b.length < 2048
    · rw [if_pos h2]
      exact Ev.pos (decide_eq_true (by omega)) (Ev.ret rfl)
    · rw [if_neg h2]
      exact Ev.neg (by simp; omega) (Ev.pos he (Ev.ret rfl))
  · rw [if_neg he]
    have hr := hroom (by omega)
    simp only [List.length_cons, List.length_nil] at hr
    have hs : strOfNums ((bytesOf (B b)).take (e : Int).toNat) = B (b.take e.toNat) := by rw [N8_B, ← List.map_take, strOf_N8]
    refine Ev.neg he (Ev.step (fun k => by simp only [tollgateref09_Parse.j2]; rfl) (Ev.neg (by simp) (Ev.neg he (Ev.pos (by omega) ?_))))
    rw [hbl, hs]
    have htl : (b.take e.toNat).length ≤ 2048 := by rw [List.length_take]; omega
    refine Ev.pos (by omega) (Ev.bind (lines_is _ (by omega)) ?_)
    generalize b.take e.toNat = s at *
    obtain ⟨n1, n2⟩ := split_len s [13, 10]
    have hne := split_ne s [13, 10]
    generalize Lib.split s [13, 10] = ls at *
    cases ls with
    | nil => exact absurd rfl hne
    | cons ln ls =>
      have hlen : (((ln :: ls).map B).length : Int) = ls.length + 1 := by simp
      have hrd : rdOf ByteArray.empty ((ln :: ls).map B) 0 = B ln := by simp [rdOf]
      have hln := n2 ln (by simp)
      have hls : ls.length ≤ 2050 := by simp at n1; omega
      obtain ⟨r, h1, h2⟩ := ref_first_is ln (by omega)
      refine Ev.pos (by rw [hlen]; omega) ?_
      rw [hrd]
      refine Ev.bind h1 ?_
      unfold headS
      rw [show (ln :: ls).headD [] = ln from rfl, show (ln :: ls).tail = ls from rfl]
      simp only
      by_cases hok : (targetS (Lib.cut (Lib.cut ln [32]).2.1 [32]).1).2.2.2 = true ∧ tokOk (Lib.cut ln [32]).1 = true ∧ (Lib.cut (Lib.cut ln [32]).2.1 [32]).2.1 = verL
      · rw [if_pos hok]
        obtain ⟨_, hr2⟩ := h2
        have hr3 := hr2 (decide_eq_true hok)
        subst hr3
        refine Ev.pos rfl ?_
        exact ref_loop e ⟨by omega, by omega⟩ _ _ _ _ ((ln :: ls).map B) (by simp; omega) ls [B ln] 0 [] [] (by simp) (fun l hl => by have := n2 l (by simp [hl]); omega) (by omega) (by simp)
      · rw [if_neg hok]
        obtain ⟨hr1, _⟩ := h2
        rw [decide_eq_false hok] at hr1
        exact Ev.neg (by rw [hr1]; simp) (Ev.ret rfl)
theorem rd_N8 (b : List UInt8) (i : Nat) (hi : i < b.length) : rd (bytesOf (B b)) (i : Int) = ((b[i]).toNat : Int) := by
  rw [N8_B]
  simp [rd, hi]
theorem occ4 (b : List UInt8) (i : Nat) (h1 : i + 4 ≤ b.length) (h2 : i + 4 ≤ 2048) : Lib.occAt (b.take 2048) [13, 10, 13, 10] i = decide (b[i] = 13 ∧ b[i + 1] = 10 ∧ b[i + 2] = 13 ∧ b[i + 3] = 10) := by
  have hd : (b.take 2048).drop i = b[i] :: b[i + 1] :: b[i + 2] :: b[i + 3] :: ((b.take 2048).drop (i + 4)) := by
    have hl : (b.take 2048).length = min 2048 b.length := List.length_take
    rw [List.drop_eq_getElem_cons (show i < (b.take 2048).length by omega), List.drop_eq_getElem_cons (show i + 1 < (b.take 2048).length by omega), List.drop_eq_getElem_cons (show i + 2 < (b.take 2048).length by omega), List.drop_eq_getElem_cons (show i + 3 < (b.take 2048).length by omega)]
    simp only [List.getElem_take]
  unfold Lib.occAt
  rw [hd, Bool.eq_iff_iff, decide_eq_true_eq]
  simp only [List.isPrefixOf, Bool.and_eq_true, beq_iff_eq, Bool.and_true]
  constructor
  · rintro ⟨a, b', c, d⟩
    exact ⟨a.symm, b'.symm, c.symm, d.symm⟩
  · rintro ⟨a, b', c, d⟩
    exact ⟨a.symm, b'.symm, c.symm, d.symm⟩
theorem scan (b : List UInt8) (hb : b.length ≤ 1000000000000000) : ∀ (d i : Nat), 2048 - i ≤ d → i ≤ 2048 → (∀ j, j < i → Lib.occAt (b.take 2048) [13, 10, 13, 10] j = false) → Ev (fun k => tollgateref09_Parse.l0 k (bytesOf (B b)) (-1) (i : Int)) (parseS b) := by
  have hnone : ∀ i : Nat, (¬ (i + 4 ≤ b.length ∧ i + 4 ≤ 2048)) → (∀ j, j < i → Lib.occAt (b.take 2048) [13, 10, 13, 10] j = false) → Lib.index (b.take 2048) [13, 10, 13, 10] = -1 := by
    intro i hi hno
    refine Lib.index_none (fun j hj => ?_)
    rcases Nat.lt_or_ge j i with h | h
    · exact hno j h
    · cases ho : Lib.occAt (b.take 2048) [13, 10, 13, 10] j with
      | false => rfl
      | true =>
        exfalso
        rcases Lib.occAt_room ho with h1 | h1
        · rw [List.length_take] at h1
          simp at h1
          omega
        · cases h1
  intro d
  induction d with
  | zero =>
    intro i hd hi hno
    have he := hnone i (by omega) hno
    have ht := ref_tail b (i : Int)
    rw [he] at ht
    have hw : wrap64 ((i : Int) + 4) = ((i + 4 : Nat) : Int) := by unfold wrap64; omega
    refine Ev.step (fun k => by simp only [tollgateref09_Parse.l0]; rfl) ?_
    rw [hw, N8_len]
    clear hw
    by_cases h1 : i + 4 ≤ b.length
    · exact Ev.pos (by omega) (Ev.neg (by omega) ht)
    · exact Ev.neg (by omega) ht
  | succ d ih =>
    intro i hd hi hno
    have hl4 : i + 4 ≤ b.length → i < b.length ∧ i + 1 < b.length ∧ i + 2 < b.length ∧ i + 3 < b.length := fun _ => by omega
    have hw : wrap64 ((i : Int) + 4) = ((i + 4 : Nat) : Int) := by unfold wrap64; omega
    have hw1 := wrap_succ i (by omega)
    have hw2 : wrap64 ((i : Int) + 2) = ((i + 2 : Nat) : Int) := by unfold wrap64; omega
    have hw3 : wrap64 ((i : Int) + 3) = ((i + 3 : Nat) : Int) := by unfold wrap64; omega
    refine Ev.step (fun k => by simp only [tollgateref09_Parse.l0]; rfl) ?_
    rw [hw, N8_len]
    clear hw
    by_cases hA : i + 4 ≤ b.length ∧ i + 4 ≤ 2048
    · obtain ⟨h1, h2⟩ := hA
      have ho := occ4 b i h1 h2
      refine Ev.pos (by omega) (Ev.pos (by omega) ?_)
      rw [show decide ((-1 : Int) < 0) = true from rfl]
      have hnext : Lib.occAt (b.take 2048) [13, 10, 13, 10] i = false → Ev (fun k => tollgateref09_Parse.l0 k (bytesOf (B b)) (-1) ((i + 1 : Nat) : Int)) (parseS b) := by
        intro hf
        refine ih (i + 1) (by omega) (by omega) (fun j hj => ?_)
        rcases Nat.lt_or_ge j i with h | h
        · exact hno j h
        · have : j = i := by omega
          rw [this]
          exact hf
      refine Ev.step (fun k => by simp only [tollgateref09_Parse.j1]; rfl) ?_
      rw [hw1, hw2, hw3, N8_len, rd_N8 b i (hl4 h1).1, rd_N8 b (i + 1) (hl4 h1).2.1, rd_N8 b (i + 2) (hl4 h1).2.2.1, rd_N8 b (i + 3) (hl4 h1).2.2.2]
      clear hw1 hw2 hw3
      refine Ev.pos (by trivial) (Ev.pos (by omega) (Ev.pos (by omega) ?_))
      have ne : ∀ (x : UInt8) (c : UInt8), x ≠ c → ¬ ((x.toNat : Int) = (c.toNat : Int)) := fun x c h he => h (UInt8.toNat_inj.1 (by omega))
      by_cases g1 : b[i] = 13
      · refine Ev.pos (by rw [g1]; rfl) (Ev.pos (by omega) (Ev.pos (by omega) ?_))
        by_cases g2 : b[i + 1] = 10
        · refine Ev.pos (by rw [g2]; rfl) (Ev.pos (by omega) (Ev.pos (by omega) ?_))
          by_cases g3 : b[i + 2] = 13
          · refine Ev.pos (by rw [g3]; rfl) (Ev.pos (by omega) (Ev.pos (by omega) ?_))
            by_cases g4 : b[i + 3] = 10
            · refine Ev.pos (by rw [g4]; rfl) ?_
              rw [decide_eq_true ⟨g1, g2, g3, g4⟩] at ho
              have he : Lib.index (b.take 2048) [13, 10, 13, 10] = (i : Int) := Lib.index_first (by rw [List.length_take]; omega) ho hno
              have ht := ref_tail b ((i + 1 : Nat) : Int)
              rw [he] at ht
              have hw : wrap64 (((i + 1 : Nat) : Int) + 4) = ((i + 5 : Nat) : Int) := by unfold wrap64; omega
              refine Ev.step (fun k => by simp only [tollgateref09_Parse.l0]; rfl) ?_
              rw [hw, N8_len, show decide ((i : Int) < 0) = false from decide_eq_false (by omega)]
              clear hw
              by_cases h5 : i + 5 ≤ b.length
              · by_cases h6 : i + 5 ≤ 2048
                · exact Ev.pos (by omega) (Ev.pos (by omega) ht)
                · exact Ev.pos (by omega) (Ev.neg (by omega) ht)
              · exact Ev.neg (by omega) ht
            · exact Ev.neg (ne _ 10 g4) (hnext (by rw [ho]; exact decide_eq_false (fun h => g4 h.2.2.2)))
          · exact Ev.neg (ne _ 13 g3) (hnext (by rw [ho]; exact decide_eq_false (fun h => g3 h.2.2.1)))
        · exact Ev.neg (ne _ 10 g2) (hnext (by rw [ho]; exact decide_eq_false (fun h => g2 h.2.1)))
      · exact Ev.neg (ne _ 13 g1) (hnext (by rw [ho]; exact decide_eq_false (fun h => g1 h.1)))
    · have he := hnone i hA hno
      have ht := ref_tail b (i : Int)
      rw [he] at ht
      by_cases h1 : i + 4 ≤ b.length
      · exact Ev.pos (by omega) (Ev.neg (by omega) ht)
      · exact Ev.neg (by omega) ht
/-- the reference's Parse answers as the program's -/
theorem refParse_is (b : List UInt8) (hb : b.length ≤ 1000000000000000) : Ev (fun k => tollgateref09_Parse.f k (bytesOf (B b))) (parseS b) := scan b hb 2048 0 (by omega) (by omega) (fun j hj => by omega)
end Go.Proofs.YtabkdmfnafeaeaaDoor.HP
