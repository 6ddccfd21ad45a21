/- The route that is found, as a fold over the routes; that the program's Find computes it. -/
import Derived.Test.YtlknaikdlkobjaaPPa
import Derived.Test.YtlknaikdlkobjaaQx4
namespace Go.Proofs.Ytlknaikdlkobjaa.PP
open Go.RowKit Go.Proofs.Ytlknaikdlkobjaa.Q Go.Proofs.YtlknaikdlkobjaaW.PrintWords Go.Proofs.YtlknaikdlkobjaaW.PrintLast Go.Proofs.YtlknaikdlkobjaaW.PrintMore
abbrev Found := ByteArray × ByteArray × ByteArray × Bool
def nofound : Found := (⟨#[]⟩, ⟨#[]⟩, ⟨#[]⟩, false)
def may (h s : ByteArray) (r : S30) : Bool := r.f0.toList == h.toList && fitsB r.f1 s
def findStep (h s : ByteArray) (a : Found) (r : S30) : Found := if may h s r = true then (if a.2.2.2 = true then (if (r.f1.size : Int) > (a.2.1.size : Int) then (r.f0, r.f1, r.f2, true) else a) else (r.f0, r.f1, r.f2, true)) else a
def findF (h s : ByteArray) (l : List S30) : Found := l.foldl (findStep h s) nofound
theorem rd_drop {l : List S30} {i : Nat} (h : i < l.length) : l.drop i = rd_T30 l (i : Int) :: l.drop (i + 1) := by
  rw [List.drop_eq_getElem_cons h]
  simp [rd_T30, List.getD_eq_getElem?_getD, List.getElem?_eq_getElem h]
theorem Find_loop (h s : ByteArray) (hs : s.size ≤ 4611686018427387904) (l : List S30) (hl : l.length ≤ 9223372036854775806) : ∀ (d i : Nat), i + d = l.length → ∀ a : Found,
    Ev (fun k => plane_Find.l0 k h s a.2.2.2 l (l.length : Int) (i : Int) a.1 a.2.1 a.2.2.1) ((l.drop i).foldl (findStep h s) a) := by
  intro d
  induction d with
  | zero =>
    intro i hi a
    refine Ev.step (fun k => by simp only [plane_Find.l0]; rfl) (Ev.neg (by omega) (Ev.ret ?_))
    rw [List.drop_eq_nil_of_le (by omega)]
    rfl
  | succ d ih =>
    intro i hi a
    have hlt : i < l.length := by omega
    have hw : wrap64 ((i : Int) + 1) = ((i + 1 : Nat) : Int) := by unfold wrap64; omega
    rw [rd_drop hlt, List.foldl_cons]
    generalize hr : rd_T30 l (i : Int) = r
    refine Ev.step (fun k => by simp only [plane_Find.l0]; rw [hr]) (Ev.pos (by omega) (Ev.pos (by omega) (Ev.pos (by omega) ?_)))
    rw [hw]
    have hn := ih (i + 1) (by omega) (findStep h s a r)
    by_cases h1 : r.f0.toList = h.toList
    · refine Ev.pos h1 (Ev.call (fits_is r.f1 s hs) ?_)
      by_cases h2 : fitsB r.f1 s = true
      · have hm : may h s r = true := by unfold may; rw [h1, h2]; simp
        refine Ev.pos h2 ?_
        by_cases h3 : a.2.2.2 = true
        · refine Ev.pos h3 ?_
          by_cases h4 : (r.f1.size : Int) > (a.2.1.size : Int)
          · have e : findStep h s a r = (r.f0, r.f1, r.f2, true) := by unfold findStep; rw [if_pos hm, if_pos h3, if_pos h4]
            rw [e] at hn ⊢
            exact Ev.pos h4 hn
          · have e : findStep h s a r = a := by unfold findStep; rw [if_pos hm, if_pos h3, if_neg h4]
            rw [e] at hn ⊢
            exact Ev.neg h4 hn
        · have e : findStep h s a r = (r.f0, r.f1, r.f2, true) := by unfold findStep; rw [if_pos hm, if_neg h3]
          rw [e] at hn ⊢
          exact Ev.neg h3 hn
      · have hm : may h s r = false := by unfold may; simp [h2]
        have e : findStep h s a r = a := by unfold findStep; rw [if_neg (by simp [hm])]
        rw [e] at hn ⊢
        exact Ev.neg h2 hn
    · have hm : may h s r = false := by unfold may; simp [h1]
      have e : findStep h s a r = a := by unfold findStep; rw [if_neg (by simp [hm])]
      rw [e] at hn ⊢
      exact Ev.neg h1 hn
theorem Find_is (v : Int) (l : List S30) (ps : List S53) (h s : ByteArray) (hs : s.size ≤ 4611686018427387904) (hl : l.length ≤ 9223372036854775806) : Ev (fun k => plane_Find.f k v l ps h s) (findF h s l) := by
  unfold plane_Find.f
  exact Find_loop h s hs l hl l.length 0 (by omega) nofound
end Go.Proofs.Ytlknaikdlkobjaa.PP
