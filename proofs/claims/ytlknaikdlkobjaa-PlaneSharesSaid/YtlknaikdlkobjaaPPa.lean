/- Plain facts on routes: what a prefix fits, the route that is found; and that the program's and the reference's functions compute just these. -/
import Derived.Test.YtlknaikdlkobjaaQx12
import Derived.Test.YtlknaikdlkobjaaQx3
import Derived.Test.YtlknaikdlkobjaaQx4
import Derived.Test.YtlknaikdlkobjaaQx8
namespace Go.Proofs.Ytlknaikdlkobjaa.PP
open Go.RowKit Go.Proofs.Ytlknaikdlkobjaa.Q Go.Proofs.YtlknaikdlkobjaaW.PrintWords Go.Proofs.YtlknaikdlkobjaaW.PrintLast Go.Proofs.YtlknaikdlkobjaaW.PrintMore
theorem Ev.pos {α : Type} {c : Prop} [Decidable c] {a b : Nat → Option α} {r : α} (hc : c) (h : Ev a r) : Ev (fun k => if c then a k else b k) r := Ev.congr (fun _ => if_pos hc) h
theorem Ev.neg {α : Type} {c : Prop} [Decidable c] {a b : Nat → Option α} {r : α} (hc : ¬ c) (h : Ev b r) : Ev (fun k => if c then a k else b k) r := Ev.congr (fun _ => if_neg hc) h
theorem Ev.put {α β : Type} {x : β} {f : Nat → β → Option α} {r : α} (h : Ev (fun k => f k x) r) : Ev (fun k => (some x).bind (f k)) r := h
theorem Ev.call {α β : Type} {g : Option β} {x : β} {f : Nat → β → Option α} {r : α} (hg : g = some x) (h : Ev (fun k => f k x) r) : Ev (fun k => g.bind (f k)) r := by rw [hg]; exact h
theorem Ev.ret {α : Type} {a r : α} (h : a = r) : Ev (fun _ => some a) r := by rw [h]; exact Ev.now _
theorem Ev.const {α : Type} {x : Option α} {r : α} (h : Ev (fun _ => x) r) : x = some r := by
  obtain ⟨K, hK⟩ := h
  exact hK K (Nat.le_refl _)
theorem live_is : Ev (fun k => tollgatelaw10_live.f k) true :=
  Ev.of (k := 12) (fun k => tollgatelaw10_live.mono k) (by decide +kernel)

/-! what a prefix fits -/
theorem toList_nil (s : ByteArray) : s.toList = [] ↔ s.size = 0 := by
  rw [ByteArray.toList_eq, ← List.length_eq_zero_iff, Array.length_toList]
  rfl
theorem bt_extract (s : ByteArray) (a : Nat) : bt (s.extract a s.size) 0 = bt s (a : Int) := by
  unfold bt
  simp only [Int.toNat_natCast, show (0 : Int).toNat = 0 from rfl]
  by_cases h : a < s.size
  · rw [dif_pos (by rw [ByteArray.size_extract]; omega), dif_pos h]
    simp [ByteArray.getElem_extract]
  · rw [dif_neg (by rw [ByteArray.size_extract]; omega), dif_neg h]
theorem last_is (p : ByteArray) (h : 1 ≤ p.size) (c : UInt8) : ((p.extract (p.size - 1) p.size).toList == [c]) = (bt p ((p.size - 1 : Nat) : Int) == (c.toNat : Int)) := by
  have e : (p.extract (p.size - 1) p.size).toList = [p[p.size - 1]'(by omega)] := by
    rw [ByteArray.toList_eq]
    apply List.ext_getElem?
    intro i
    rw [ByteArray.data_extract, Array.getElem?_toList]
    by_cases hi : i = 0
    · subst hi
      rw [Array.getElem?_eq_getElem (by simp; have : p.size = p.data.size := rfl; omega)]
      simp
      rfl
    · rw [Array.getElem?_eq_none (by simp; have : p.size = p.data.size := rfl; omega), List.getElem?_eq_none (by simp; omega)]
  have e2 : bt p ((p.size - 1 : Nat) : Int) = ((p[p.size - 1]'(by omega)).toNat : Int) := by
    unfold bt
    rw [dif_pos (by simp only [Int.toNat_natCast]; omega)]
    simp
  rw [e, e2, Bool.eq_iff_iff]
  simp only [beq_iff_eq, List.cons.injEq, and_true]
  constructor
  · intro h; rw [h]
  · intro h; exact UInt8.toNat_inj.1 (by omega)
def fitsB (p s : ByteArray) : Bool := if p.size ≤ s.size then (if (s.extract 0 p.size).toList = p.toList then (decide (s.size = p.size) || (bt s (p.size : Int) == 47 || (decide (1 ≤ p.size) && bt p ((p.size - 1 : Nat) : Int) == 47))) else false) else false
theorem fits_is (p s : ByteArray) (hs : s.size ≤ 4611686018427387904) : plane_fits.f p s = some (fitsB p s) := by
  unfold plane_fits.f strings_CutPrefix.f stringslite_CutPrefix.f stringslite_HasPrefix.f fitsB
  by_cases h1 : p.size ≤ s.size
  · rw [if_pos (by omega), if_pos (by omega), if_pos (by omega), if_pos h1]
    simp only [Option.bind_some, Int.toNat_natCast]
    by_cases h2 : (s.extract 0 p.size).toList = p.toList
    · have hb : ((s.extract 0 p.size).toList == p.toList) = true := by rw [h2]; exact beq_self_eq_true _
      rw [if_pos h2, hb]
      simp only [if_true]
      rw [if_pos (by omega), if_pos (by omega)]
      simp only [Option.bind_some, if_true]
      have hsz : (s.extract p.size s.size).size = s.size - p.size := by rw [ByteArray.size_extract]; omega
      by_cases h3 : s.size = p.size
      · rw [if_pos ((toList_nil _).2 (by omega))]
        simp [h3]
      · rw [if_neg (fun h => h3 (by have := (toList_nil _).1 h; omega))]
        unfold strings_HasSuffix.f stringslite_HasSuffix.f
        have hsl : (⟨#[47]⟩ : ByteArray).size = 1 := rfl
        have hw : wrap64 ((p.size : Int) - ((⟨#[47]⟩ : ByteArray).size : Int)) = (p.size : Int) - 1 := by rw [hsl]; unfold wrap64; omega
        by_cases h4 : 1 ≤ p.size
        · rw [if_pos (by rw [hsl]; omega), hw, if_pos (by omega), if_pos (by omega)]
          have ht : ((p.size : Int) - 1).toNat = p.size - 1 := by omega
          rw [ht]
          simp only [Option.bind_some]
          have hl := last_is p h4 47
          rw [show (⟨#[47]⟩ : ByteArray).toList = [47] from by rw [ByteArray.toList_eq], hl, bt_extract]
          rw [if_pos (show 0 < ((s.extract p.size s.size).size : Int) by omega)]
          simp only [h3, h4, decide_false, decide_true, Bool.false_or, Bool.true_and]
          rw [show ((47 : UInt8).toNat : Int) = 47 from rfl]
          cases bt p ((p.size - 1 : Nat) : Int) == 47 <;> simp
        · rw [if_neg (by rw [hsl]; omega)]
          simp only [Option.bind_some, Bool.false_eq_true, if_false]
          rw [if_pos (show 0 < ((s.extract p.size s.size).size : Int) by omega), bt_extract]
          simp [h3, h4]
    · have hb : ((s.extract 0 p.size).toList == p.toList) = false := beq_eq_false_iff_ne.2 h2
      rw [if_neg h2, hb]
      simp
  · rw [if_neg (by omega), if_neg h1]
    simp
theorem rFits_is (p s : ByteArray) (hs : s.size ≤ 4611686018427387904) : Ev (fun k => tollgateref10_Fits.f k p s) (fitsB p s) := by
  unfold tollgateref10_Fits.f fitsB
  have j1 : Ev (fun k => tollgateref10_Fits.j0 k p s true) false := Ev.step (f := fun _ => some false) (fun k => by simp only [tollgateref10_Fits.j0, if_true]) (Ev.now _)
  by_cases h1 : p.size ≤ s.size
  · rw [if_pos h1]
    refine Ev.neg (by omega) (Ev.pos (by omega) (Ev.pos (by omega) ?_))
    rw [Int.toNat_natCast]
    by_cases h2 : (s.extract 0 p.size).toList = p.toList
    · have hb : ((s.extract 0 p.size).toList != p.toList) = false := by rw [h2]; simp
      rw [if_pos h2, hb]
      refine Ev.step (fun k => by simp only [tollgateref10_Fits.j0, Bool.false_eq_true, if_false]; rfl) ?_
      by_cases h3 : s.size = p.size
      · refine Ev.pos (by omega) (Ev.ret ?_)
        simp [h3]
      · refine Ev.neg (by omega) (Ev.pos (by omega) (Ev.pos (by omega) ?_))
        by_cases h5 : bt s (p.size : Int) = 47
        · refine Ev.pos h5 (Ev.ret ?_)
          simp [h5]
        · refine Ev.neg h5 ?_
          by_cases h4 : p.toList = []
          · have h6 := (toList_nil p).1 h4
            refine Ev.pos h4 (Ev.ret ?_)
            rw [h6] at h3 h5
            have h3' : decide (s.size = 0) = false := decide_eq_false h3
            have h5' : (bt s ((0 : Nat) : Int) == 47) = false := beq_eq_false_iff_ne.2 h5
            rw [h6, h3', h5']
            rfl
          · have h6 : 1 ≤ p.size := by
              rcases Nat.eq_zero_or_pos p.size with h | h
              · exact absurd ((toList_nil p).2 h) h4
              · exact h
            have hw : wrap64 ((p.size : Int) - 1) = ((p.size - 1 : Nat) : Int) := by unfold wrap64; omega
            rw [hw]
            refine Ev.neg h4 (Ev.pos (by omega) (Ev.pos (by omega) (Ev.ret ?_)))
            simp [h3, h5, h6]
    · have hb : ((s.extract 0 p.size).toList != p.toList) = true := by simpa using h2
      rw [if_neg h2, hb]
      exact j1
  · rw [if_neg h1]
    exact Ev.pos (by omega) j1
end Go.Proofs.Ytlknaikdlkobjaa.PP
