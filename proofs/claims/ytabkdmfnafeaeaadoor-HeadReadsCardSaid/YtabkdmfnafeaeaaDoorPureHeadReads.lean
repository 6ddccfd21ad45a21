/- HeadReads: bytes are just the head that the document says, or the error; they stay. No condition. -/
import Derived.Test.YtabkdmfnafeaeaaDoorRx39
import Derived.Test.YtabkdmfnafeaeaaDoorHPm
namespace Go.Proofs.YtabkdmfnafeaeaaDoor.Pure
open Go.RowKit Go.Proofs.YtabkdmfnafeaeaaDoor.R Go.Proofs.YtabkdmfnafeaeaaDoor.HP Go.Proofs.YtabkdmfnafeaeaaDoorW.PrintWords Go.Proofs.YtabkdmfnafeaeaaDoorW.PrintLast Go.Proofs.YtabkdmfnafeaeaaDoorW.PrintMore
theorem parseS_small (b : List UInt8) : ∃ m p q hh fl n e, parseS b = (m, p, q, hh, fl, n, e) ∧ fl.length ≤ 1000000000 := by
  have hloop : ∀ (ls : List (List UInt8)) (E : Int) (m p q hh : ByteArray) (n : Nat) (ho : List UInt8) (acc : List HP.Fd), acc.length + ls.length ≤ 1000000000 → (loopS E m p q hh ls n ho acc).2.2.2.2.1.length ≤ 1000000000 := by
    intro ls
    induction ls with
    | nil =>
      intro E m p q hh n ho acc hl
      show (fin E m p q hh n (B ho) (acc.map sF)).2.2.2.2.1.length ≤ _
      unfold fin
      split
      · split
        · exact Nat.zero_le _
        · show (acc.map sF).length ≤ _
          rw [List.length_map]
          simpa using hl
      · exact Nat.zero_le _
    | cons ln ls ih =>
      intro E m p q hh n ho acc hl
      rw [loopS]
      cases lineS ln with
      | none => exact Nat.zero_le _
      | some f =>
        simp only
        split
        · split
          · exact ih E m p q hh _ _ _ (by simp at hl ⊢; omega)
          · exact Nat.zero_le _
        · exact ih E m p q hh _ _ _ (by simp at hl ⊢; omega)
  have h : (parseS b).2.2.2.2.1.length ≤ 1000000000 := by
    unfold parseS
    split
    · split
      · exact Nat.zero_le _
      · exact Nat.zero_le _
    · have hroom := Lib.index_room (b.take 2048) [13, 10, 13, 10]
      rw [List.length_take] at hroom
      generalize Lib.index (b.take 2048) [13, 10, 13, 10] = e at *
      rename_i he
      have hr := hroom (by omega)
      simp only [List.length_cons, List.length_nil] at hr
      have htl : (b.take e.toNat).length ≤ 2048 := by rw [List.length_take]; omega
      obtain ⟨n1, _⟩ := split_len (b.take e.toNat) [13, 10]
      unfold headS
      simp only
      split
      · refine hloop _ _ _ _ _ _ _ _ _ ?_
        rw [List.length_tail, List.length_nil]
        omega
      · exact Nat.zero_le _
  exact ⟨_, _, _, _, _, _, _, rfl, h⟩
theorem HeadReads : tollgatelaw09_HeadReads.Pure := by
  intro l0 _ hl hb
  obtain ⟨b, rfl⟩ := bytes_in l0 hb
  rw [N8_len] at hl
  refine Ev.rounds (r := true) ?_
  unfold tollgatelaw09_HeadReads.f
  obtain ⟨m, p, q, hh, fl, n, e, hP, hfl⟩ := parseS_small b
  have h1 := parseS_is b
  have h2 := refParse_is b (by omega)
  rw [hP] at h1 h2
  refine Ev.put (Ev.pos (by rw [N8_len]; simp; omega) (Ev.put ?_))
  rw [List.nil_append]
  refine Ev.bind h1 (Ev.bind h2 (Ev.bind live_is (Ev.pos rfl (Ev.bind (same_self m p q hh fl hfl) (Ev.pos rfl (Ev.pos rfl (Ev.pos rfl (Ev.ret ?_))))))))
  simp
end Go.Proofs.YtabkdmfnafeaeaaDoor.Pure
