/- HeadBack: what is written is parsed as it was, whatever stands behind it. Condition: the form '..UptoCardSaid' (arguments of together at most 1048576 values). -/
import Derived.Test.YtabkdmfnafeaeaaDoorQx45
import Derived.Test.YtabkdmfnafeaeaaDoorHPz
namespace Go.Proofs.YtabkdmfnafeaeaaDoor.PureU
open Go.RowKit Go.Proofs.YtabkdmfnafeaeaaDoor.Q Go.Proofs.YtabkdmfnafeaeaaDoor.HP Go.Proofs.YtabkdmfnafeaeaaDoorW.PrintWords Go.Proofs.YtabkdmfnafeaeaaDoorW.PrintLast Go.Proofs.YtabkdmfnafeaeaaDoorW.PrintMore
def _root_.Go.Proofs.YtabkdmfnafeaeaaDoor.Q.tollgatelaw09_HeadBack.PureU : Prop := ∀ (y0 : S25) (l1 : List Int), (mu25 y0 + ((l1.map (fun _ => 1)).sum + 1)) ≤ 1048576 → ok25 y0 → (∀ y ∈ l1, (Lit.int .u8 y).wf = true) → ∃ k, tollgatelaw09_HeadBack.f k y0.f0 y0.f1 y0.f2 y0.f3 y0.f4 l1 = some true
theorem sum_ones (l : List Int) : (l.map (fun _ => 1)).sum = l.length := by
  induction l with
  | nil => rfl
  | cons x l ih => rw [List.map_cons, List.sum_cons, ih, List.length_cons, Nat.add_comm]
theorem HeadBack : tollgatelaw09_HeadBack.PureU := by
  intro y0 l1 hS _ hb
  rw [sum_ones] at hS
  obtain ⟨m, p, q, hh, fs, rfl, _, h1, h2, h3⟩ := head_in y0 (by omega)
  obtain ⟨z, rfl⟩ := bytes_in l1 hb
  rw [N8_len] at hS
  refine Ev.rounds (r := true) ?_
  unfold tollgatelaw09_HeadBack.f
  refine Ev.bind (write_is m p q hh fs (by omega) (by omega) (by omega)) ?_
  rcases W2_cases m p q fs (wOk m p q hh fs) (nh fs) with ⟨e, he, hW⟩ | ⟨hw, h1n, h32, hL, hW⟩
  · rw [hW]
    exact Ev.neg (by show ¬ e = 0; omega) (Ev.bind live_is (Ev.pos rfl (Ev.ret rfl)))
  · rw [hW]
    have hl : (bytesOf (B (writeL m p q fs))).length = (writeL m p q fs).length := N8_len _
    refine Ev.pos rfl (Ev.put (Ev.pos (by rw [hl]; simp; omega) (Ev.put ?_)))
    rw [List.nil_append]
    refine Ev.pos (by rw [hl, N8_len]; omega) ?_
    rw [N8_app]
    refine Ev.bind (parse_write m p q hh fs z (by omega) hw h1n h32 hL) (Ev.bind live_is (Ev.pos rfl (Ev.pos rfl (Ev.pos ?_ ?_))))
    · rw [hl]
    · exact Ev.bind (same_self (B m) (B p) (B q) (B hh) (fs.map sF) (by rw [List.length_map]; omega)) (Ev.ret rfl)
end Go.Proofs.YtabkdmfnafeaeaaDoor.PureU
