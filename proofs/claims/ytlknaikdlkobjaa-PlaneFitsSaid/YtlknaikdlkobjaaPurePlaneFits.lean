/- PlaneFits: what fits a path fits all that lies below it; a prefix fits itself: for every prefix, path and what stands behind it. No condition. -/
import Derived.Test.YtlknaikdlkobjaaQx9
import Derived.Test.YtlknaikdlkobjaaPPb
namespace Go.Proofs.Ytlknaikdlkobjaa.Pure
open Go.RowKit Go.Proofs.Ytlknaikdlkobjaa.Q Go.Proofs.Ytlknaikdlkobjaa.PP Go.Proofs.YtlknaikdlkobjaaW.PrintWords Go.Proofs.YtlknaikdlkobjaaW.PrintLast Go.Proofs.YtlknaikdlkobjaaW.PrintMore
theorem find_one (h s p q : ByteArray) : (findF h s [⟨⟨#[104]⟩, p, q⟩]).2.2.2 = (((⟨#[104]⟩ : ByteArray).toList == h.toList) && fitsB p s) := by
  simp only [findF, List.foldl_cons, List.foldl_nil, findStep, may, nofound]
  cases ((⟨#[104]⟩ : ByteArray).toList == h.toList) && fitsB p s <;> simp
theorem fits_self (p : ByteArray) : fitsB p p = true := by
  unfold fitsB
  rw [if_pos (Nat.le_refl _), if_pos (by rw [ByteArray.toList_eq, ByteArray.toList_eq, ByteArray.data_extract]; simp only [Array.toList_extract, List.extract_eq_take_drop, List.drop_zero, Nat.sub_zero]; exact List.take_of_length_le (by rw [Array.length_toList]; exact Nat.le_refl _))]
  simp
theorem fits_below (p s m : ByteArray) (h : fitsB p s = true) : fitsB p (s ++ ⟨#[47]⟩ ++ m) = true := by
  unfold fitsB at h ⊢
  have hsz : (s ++ (⟨#[47]⟩ : ByteArray) ++ m).size = s.size + 1 + m.size := by
    rw [ByteArray.size_append, ByteArray.size_append]; rfl
  split at h
  · rename_i h1
    split at h
    · rename_i h2
      rw [if_pos (by omega)]
      have he : ((s ++ (⟨#[47]⟩ : ByteArray) ++ m).extract 0 p.size).toList = (s.extract 0 p.size).toList := by
        rw [ByteArray.toList_eq, ByteArray.toList_eq, ByteArray.data_extract, ByteArray.data_extract, ByteArray.data_append, ByteArray.data_append]
        have : p.size ≤ s.data.size := h1
        simp only [Array.toList_extract, Array.toList_append, List.extract_eq_take_drop, List.drop_zero, Nat.sub_zero]
        rw [List.append_assoc, List.take_append_of_le_length (by rw [Array.length_toList]; exact this)]
      rw [if_pos (he.trans h2)]
      by_cases h3 : s.size = p.size
      · have hb : bt (s ++ (⟨#[47]⟩ : ByteArray) ++ m) (p.size : Int) = 47 := by
          unfold bt
          simp only [Int.toNat_natCast]
          rw [dif_pos (by omega)]
          rw [ByteArray.getElem_append_left (by rw [ByteArray.size_append]; show _ < s.size + 1; omega), ByteArray.getElem_append_right (by omega)]
          simp [h3]
          rfl
        rw [hb]
        simp
      · have hb : bt (s ++ (⟨#[47]⟩ : ByteArray) ++ m) (p.size : Int) = bt s (p.size : Int) := by
          unfold bt
          simp only [Int.toNat_natCast]
          rw [dif_pos (by omega), dif_pos (by omega)]
          rw [ByteArray.getElem_append_left (by rw [ByteArray.size_append]; show _ < s.size + 1; omega), ByteArray.getElem_append_left (by omega)]
        rw [hb]
        simp only [h3, decide_false, Bool.false_or] at h
        rw [h, Bool.or_true]
    · cases h
  · cases h
theorem PlaneFits : tollgatelaw10_PlaneFits.Pure := by
  intro p s m hp hs hm
  refine Ev.rounds (r := true) ?_
  unfold tollgatelaw10_PlaneFits.f
  have hsz : (s ++ (⟨#[47]⟩ : ByteArray)).size = s.size + 1 := by rw [ByteArray.size_append]; rfl
  have hsz2 : (s ++ (⟨#[47]⟩ : ByteArray) ++ m).size = s.size + 1 + m.size := by rw [ByteArray.size_append, hsz]
  refine Ev.put ?_
  refine Ev.bind (Find_is _ _ _ _ p (by omega) (by simp)) (Ev.bind (Find_is _ _ _ _ s (by omega) (by simp)) (Ev.pos (by omega) (Ev.pos (by omega) ?_)))
  refine Ev.bind (Find_is _ _ _ _ _ (by omega) (by simp)) (Ev.bind (Find_is _ _ _ _ s (by omega) (by simp)) (Ev.bind live_is (Ev.pos rfl ?_)))
  simp only [find_one]
  have hh : ((⟨#[104]⟩ : ByteArray).toList == (⟨#[104]⟩ : ByteArray).toList) = true := by simp
  have hg : ((⟨#[104]⟩ : ByteArray).toList == (⟨#[103]⟩ : ByteArray).toList) = false := by rw [ByteArray.toList_eq, ByteArray.toList_eq]; decide
  rw [hh, hg, fits_self]
  refine Ev.pos rfl ?_
  by_cases h : fitsB p s = true
  · rw [fits_below p s m h, h]
    exact Ev.pos rfl (Ev.pos rfl (Ev.ret rfl))
  · exact Ev.neg (by simpa using h) (Ev.ret rfl)
end Go.Proofs.Ytlknaikdlkobjaa.Pure
