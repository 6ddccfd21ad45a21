/- HeadCuts: a head that is cut short is ErrShort. Condition: the form '..UptoCardSaid' (arguments of together at most 1048576 values). -/
import Derived.Test.YtabkdmfnafeaeaaDoorQx48
import Derived.Test.YtabkdmfnafeaeaaDoorHPz
namespace Go.Proofs.YtabkdmfnafeaeaaDoor.PureU
open Go.RowKit Go.Proofs.YtabkdmfnafeaeaaDoor.Q Go.Proofs.YtabkdmfnafeaeaaDoor.HP Go.Proofs.YtabkdmfnafeaeaaDoorW.PrintWords Go.Proofs.YtabkdmfnafeaeaaDoorW.PrintLast Go.Proofs.YtabkdmfnafeaeaaDoorW.PrintMore
def _root_.Go.Proofs.YtabkdmfnafeaeaaDoor.Q.tollgatelaw09_HeadCuts.PureU : Prop := ∀ (y0 : S25) (a1 : Int), mu25 y0 ≤ 1048576 → ok25 y0 → (Lit.int .i64 a1).wf = true → ∃ k, tollgatelaw09_HeadCuts.f k y0.f0 y0.f1 y0.f2 y0.f3 y0.f4 a1 = some true
theorem HeadCuts : tollgatelaw09_HeadCuts.PureU := by
  intro y0 a1 hS _ _
  obtain ⟨m, p, q, hh, fs, rfl, _, h1, h2, h3⟩ := head_in y0 hS
  refine Ev.rounds (r := true) ?_
  unfold tollgatelaw09_HeadCuts.f
  refine Ev.bind (write_is m p q hh fs (by omega) (by omega) (by omega)) ?_
  rcases W2_cases m p q fs (wOk m p q hh fs) (nh fs) with ⟨e, he, hW⟩ | ⟨hw, h1n, h32, hL, hW⟩
  · rw [hW]
    refine Ev.neg (by show ¬ e = 0; omega) ?_
    refine Ev.step (fun k => by simp only [tollgatelaw09_HeadCuts.j0]; rfl) ?_
    refine Ev.pos (by trivial) (Ev.bind live_is (Ev.pos rfl (Ev.ret ?_)))
    show (e != 0) = true
    simp
    omega
  · rw [hW]
    have hlen := writeL_length m p q fs
    have hl : (bytesOf (B (writeL m p q fs))).length = (writeL m p q fs).length := N8_len _
    have hz : (((bytesOf (B (writeL m p q fs))).length : Int) == 0) = false := by
      rw [hl]
      exact beq_false_of_ne (by omega)
    obtain ⟨u1, u2, _⟩ := u64_wrap a1
    obtain ⟨_, _, u3⟩ := u64_wrap ((writeL m p q fs).length : Int)
    have u4 := u3 (by omega) (by omega)
    refine Ev.pos rfl ?_
    show Ev (fun k => tollgatelaw09_HeadCuts.j0 k a1 (bytesOf (B (writeL m p q fs))) 0 (((bytesOf (B (writeL m p q fs))).length : Int) == 0)) true
    rw [hz]
    refine Ev.step (fun k => by simp only [tollgatelaw09_HeadCuts.j0]; rfl) ?_
    rw [hl, u4]
    obtain ⟨j, hj, hj2⟩ : ∃ j : Nat, wrap64 (Int.tmod (IntKind.u64.wrap a1) ((writeL m p q fs).length : Int)) = (j : Int) ∧ j < (writeL m p q fs).length := by
      generalize IntKind.u64.wrap a1 = x at *
      have hm : Int.tmod x ((writeL m p q fs).length : Int) = ((x.toNat % (writeL m p q fs).length : Nat) : Int) := by
        rw [Int.tmod_eq_emod_of_nonneg u1, Int.natCast_emod, Int.toNat_of_nonneg u1]
      have hlt : x.toNat % (writeL m p q fs).length < (writeL m p q fs).length := Nat.mod_lt _ (by omega)
      refine ⟨x.toNat % (writeL m p q fs).length, ?_, hlt⟩
      rw [hm]
      exact wrap_nat _ (by omega)
    rw [hj]
    refine Ev.neg (by simp) (Ev.neg (by omega) (Ev.pos (by omega) (Ev.pos (by omega) ?_)))
    have ht : (bytesOf (B (writeL m p q fs))).take ((j : Int)).toNat = bytesOf (B ((writeL m p q fs).take j)) := by
      rw [N8_B, N8_B, Int.toNat_natCast, List.map_take]
    rw [ht]
    refine Ev.bind (parse_cut m p q hh fs j hw hL hj2) (Ev.bind live_is (Ev.pos rfl (Ev.pos rfl (Ev.pos rfl ?_))))
    exact Ev.bind (same_self (B []) (B []) (B []) (B []) [] (by simp)) (Ev.ret rfl)
end Go.Proofs.YtabkdmfnafeaeaaDoor.PureU
