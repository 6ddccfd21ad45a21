/- HeadAgain: what is parsed is written, and parsed again as the same, if its host is that of its field, and there is room. No condition. -/
import Derived.Test.YtabkdmfnafeaeaaDoorQx47
import Derived.Test.YtabkdmfnafeaeaaDoorHPzs
namespace Go.Proofs.YtabkdmfnafeaeaaDoor.Pure
open Go.RowKit Go.Proofs.YtabkdmfnafeaeaaDoor.Q Go.Proofs.YtabkdmfnafeaeaaDoor.HP Go.Proofs.YtabkdmfnafeaeaaDoorW.PrintWords Go.Proofs.YtabkdmfnafeaeaaDoorW.PrintLast Go.Proofs.YtabkdmfnafeaeaaDoorW.PrintMore
theorem HeadAgain : tollgatelaw09_HeadAgain.Pure := by
  intro l0 _ _ hb
  obtain ⟨b, rfl⟩ := bytes_in l0 hb
  refine Ev.rounds (r := true) ?_
  unfold tollgatelaw09_HeadAgain.f
  refine Ev.bind (parseS_is b) ?_
  rcases parseS_ok b with ⟨e, he, hP⟩ | ⟨m, p, q, hh, lh, fs, e, hP, e1, e2, e3, hm, hp, hq, hn, h32, hg, l1, l2, l3, hho⟩
  · rw [hP]
    refine Ev.neg (by show ¬ e = 0; omega) (Ev.bind live_is (Ev.pos rfl (Ev.bind (same_self (B []) (B []) (B []) (B []) [] (by simp)) (Ev.pos rfl (Ev.pos rfl ?_)))))
    show Ev (fun k => if e = 3 then some true else if e = 6 then some true else some (e == 4)) true
    by_cases h3 : e = 3
    · exact Ev.pos h3 (Ev.ret rfl)
    · by_cases h6 : e = 6
      · exact Ev.neg h3 (Ev.pos h6 (Ev.ret rfl))
      · exact Ev.neg h3 (Ev.neg h6 (Ev.ret (by simp; omega)))
  · rw [hP]
    have hsz := sz_small fs (fun f hf => (hg f hf).2)
    have hpre : (preW m p q).length ≤ 10000000 := by
      unfold preW tgt
      split <;> simp [verL] <;> omega
    refine Ev.pos rfl ?_
    show Ev (fun k => if e < 4 then _ else if e > ((bytesOf (B b)).length : Int) then _ else tollgatelaw09_HeadAgain.j0 k (decide (e > 2048)) (B m) (B p) (B q) (B hh) (fs.map sF)) true
    refine Ev.neg (by omega) (Ev.neg (by rw [N8_len]; omega) ?_)
    rw [show decide (e > 2048) = false from decide_eq_false (by omega)]
    refine Ev.step (fun k => by simp only [tollgatelaw09_HeadAgain.j0]; rfl) (Ev.neg (by simp) (Ev.bind (write_is m p q hh fs (by omega) (by omega) (by omega)) ?_))
    rw [hn]
    rcases W2_cases m p q fs (wOk m p q hh fs) 1 with ⟨x, hx, hW⟩ | ⟨hw, _, _, hL, hW⟩
    · rw [hW]
      refine Ev.neg (by show ¬ x = 0; omega) (Ev.bind live_is (Ev.pos rfl ?_))
      show Ev (fun k => if x = 6 then some true else if x = 4 then _ else some false) true
      by_cases h6 : x = 6
      · exact Ev.pos h6 (Ev.ret rfl)
      · refine Ev.neg h6 (Ev.pos (by omega) ?_)
        have hx4 : x = 4 := by omega
        subst hx4
        have hwf : wOk m p q hh fs = false := by
          cases hw : wOk m p q hh fs with
          | false => rfl
          | true =>
            exfalso
            rw [hw] at hW
            unfold W2 at hW
            rw [if_pos ⟨rfl, rfl⟩] at hW
            split at hW
            · injection hW with _ h
              omega
            · injection hW with _ h
              omega
        have hne : lh ≠ hh := by
          intro hl
          subst hl
          have : fs.all (fOk lh) = true := by
            rw [List.all_eq_true]
            intro f hf
            obtain ⟨⟨g1, g2, g3, g4⟩, _⟩ := hg f hf
            by_cases hnf : f.1 = hostL
            · rw [fOk_eq g1 g2 g3 hnf]
              exact decide_eq_true (hho f hf hnf)
            · unfold fOk
              rw [g1, g3, decide_eq_true g2, decide_eq_true hnf]
              rfl
          unfold wOk at hwf
          rw [hm, hp, hq, this] at hwf
          cases hwf
        exact Ev.bind (other_is (B m) (B p) (B q) hh lh fs (by omega) (fun f hf => by have := (hg f hf).2; omega) hne hho fs.length 0 (by omega) (by rw [List.drop_zero, hn]; exact Nat.le_refl 1)) (Ev.ret rfl)
    · rw [hW]
      have hpw := parse_write m p q hh fs [] (by simp) hw hn h32 hL
      rw [List.append_nil] at hpw
      exact Ev.pos rfl (Ev.bind hpw (Ev.bind live_is (Ev.pos rfl (Ev.pos rfl (Ev.bind (same_self (B m) (B p) (B q) (B hh) (fs.map sF) (by rw [List.length_map]; omega)) (Ev.ret rfl))))))
end Go.Proofs.YtabkdmfnafeaeaaDoor.Pure
