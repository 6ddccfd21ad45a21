/- FrameRows: rows that are framed one behind the other are read back by the program's All; what is torn behind them plays no part. No condition. -/
import Derived.Test.YtpjcamdligelmaaFRa
import Derived.Test.YtpjcamdligelmaaQx24
open Go Go.Proofs.Ytpjcamdligelmaa.Q in
def _root_.Go.Proofs.Ytpjcamdligelmaa.Q.tollgatelaw01_FrameRows.Pure2 : Prop := ∀ (l0 : List (List Int)) (l1 : List Int) (a2 : Int), (∀ x ∈ l0, ∀ y ∈ x, (Lit.int .u8 y).wf = true) → (∀ y ∈ l1, (Lit.int .u8 y).wf = true) → (Lit.int .i64 a2).wf = true → ∃ k, tollgatelaw01_FrameRows.f k l0 l1 a2 = some true
namespace Go.Proofs.Ytpjcamdligelmaa.Pure
open Go.RowKit Go.Proofs.Ytpjcamdligelmaa.Q Go.Proofs.Ytpjcamdligelmaa.FP Go.Proofs.YtpjcamdligelmaaW.PrintWords Go.Proofs.YtpjcamdligelmaaW.PrintLast Go.Proofs.YtpjcamdligelmaaW.PrintMore
theorem wt_le (l : List (List Int)) (h : ∀ x ∈ l, x.length ≤ 65536) : wt l ≤ 65544 * l.length := by
  induction l with
  | nil => simp [wt]
  | cons x l ih =>
    have h0 := h x (by simp)
    have h1 := ih (fun y hy => h y (by simp [hy]))
    simp only [wt, List.map_cons, List.sum_cons, List.length_cons] at *
    omega
/-- all frames of the rows and of what is torn behind them -/
theorem rows_all (ws : List (List Int)) (hx : ∀ x ∈ ws, x.length ≤ 65536) (hB : ∀ x ∈ ws, B8 x) (hn : ws.length ≤ 64) (q : List Int) (hq : B8 q) (hl : q.length ≤ 65544)
    (hs : (nextOf (cat ws ++ q) ((cat ws).length : Int)).2.2 ≠ 0) (g : Nat → List (List Int) × Int → Option Bool) (hg : Ev (fun k => g k (ws, ((cat ws).length : Int))) true) :
    Ev (fun k => (frame_All.f k (cat ws ++ q)).bind (g k)) true := by
  have h1 := cat_length ws
  have h2 := wt_le ws hx
  have h3 := allOf_cat q ws [] [] 4260361 hx (by omega) (by simpa using hs)
  simp only [List.nil_append] at h3
  have h4 : (([] : List Int).length : Int) = 0 := rfl
  rw [h4] at h3
  have h5 := All_is (cat ws ++ q) (by rw [List.length_append]; omega) (B8_append (cat_B8 hB) hq) 4260361 (by rw [List.length_append]; omega)
  rw [h3] at h5
  exact Ev.bind h5 hg
def fin (ws : List (List Int)) (n : Int) (k : Nat) (bt : List (List Int) × Int) : Option Bool := (tollgatelaw01_live.f).bind fun t322 => (if t322 = true then ((tollgateref01_SameRows.f k bt.1 ws).bind fun t323 => (if t323 = true then (some (bt.2 == n)) else (some false))) else (some false))
theorem rows_end (l0 : List (List Int)) (l1 : List Int) (a2 x9 : Int) (hb : B8 l1) (ws : List (List Int)) (hx : ∀ x ∈ ws, x.length ≤ 65536) (hB : ∀ x ∈ ws, B8 x) (hn : ws.length ≤ 64) :
    Ev (fun k => tollgatelaw01_FrameRows.j1 k l0 l1 a2 (cat ws) ws x9 false) true := by
  have h1 := cat_length ws
  have h2 := wt_le ws hx
  have hsame : Ev (fun k => fin ws ((cat ws).length : Int) k (ws, ((cat ws).length : Int))) true :=
    Ev.call rfl (Ev.pos rfl (Ev.bind (Same_is ws (by omega)) (Ev.pos rfl (Ev.ret (by simp)))))
  refine Ev.step (fun k => by simp only [tollgatelaw01_FrameRows.j1]; rfl) ?_
  refine Ev.neg (by simp) ?_
  refine Ev.call (Frame_f hb) ?_
  by_cases hL : (l1.length : Int) > 65536
  · rw [if_pos hL]
    refine Ev.neg (fun h : (6 : Int) = 0 => by omega) ?_
    have := rows_all ws hx hB hn [] (by intro x hx; cases hx) (by simp) (by rw [List.append_nil]; exact nextOf_end _) (fin ws ((cat ws).length : Int)) hsame
    rw [List.append_nil] at this
    exact this
  rw [if_neg hL]
  have hFl := frameBytes_length l1
  have hFB := frameBytes_B8 l1 hb
  have hw8 : wrap64 (8 + (l1.length : Int)) = 8 + (l1.length : Int) := by unfold wrap64; omega
  have hwu : IntKind.u64.wrap (8 + (l1.length : Int)) = 8 + (l1.length : Int) := by
    simp only [IntKind.wrap, IntKind.signed, IntKind.bits]; simp; omega
  have hu : 0 ≤ IntKind.u64.wrap a2 ∧ IntKind.u64.wrap a2 < 18446744073709551616 := by
    simp only [IntKind.wrap, IntKind.signed, IntKind.bits]; simp; omega
  rw [hw8, hwu]
  generalize IntKind.u64.wrap a2 = u at hu ⊢
  have hm1 : Int.tmod u (8 + (l1.length : Int)) = u % (8 + (l1.length : Int)) := Int.tmod_eq_emod_of_nonneg hu.1
  have hm2 : 0 ≤ u % (8 + (l1.length : Int)) ∧ u % (8 + (l1.length : Int)) < 8 + (l1.length : Int) := ⟨Int.emod_nonneg _ (by omega), Int.emod_lt_of_pos _ (by omega)⟩
  generalize hn : u % (8 + (l1.length : Int)) = n at hm1 hm2
  have hw1 : wrap64 n = n := by unfold wrap64; omega
  rw [hm1, hw1]
  dsimp only
  have hmn : mn ((frameBytes l1).length : Int) n = n := by unfold mn; rw [if_pos (by omega)]
  rw [hmn]
  have hlt : ((frameBytes l1).take n.toNat).length = n.toNat := by rw [List.length_take]; omega
  have hcut := nextOf_cut (cat ws) l1 (by omega) n.toNat (by omega)
  refine Ev.pos rfl (Ev.neg (by omega) (Ev.pos (by omega) (Ev.pos (by omega) (Ev.put (Ev.pos (by rw [hlt]; omega) ?_)))))
  exact rows_all ws hx hB (by assumption) _ (B8_take hFB n.toNat) (by rw [hlt]; omega) (by rw [hcut]; intro h; cases h) (fin ws ((cat ws).length : Int)) hsame
theorem rows_loop (l0 : List (List Int)) (l1 : List Int) (a2 : Int) (hb : B8 l1) (h0 : ∀ x ∈ l0, B8 x) : ∀ (d i : Nat), i + d = min l0.length 64 → Ev (fun k => tollgatelaw01_FrameRows.l0 k l0 l1 a2 (cat (fit (l0.take i))) (fit (l0.take i)) (i : Int)) true := by
  intro d
  induction d with
  | zero =>
    intro i hi
    have hf := fit_length (l0.take i)
    rw [List.length_take] at hf
    have he := rows_end l0 l1 a2 (i : Int) hb (fit (l0.take i)) (fit_le _) (fun x hx => h0 x (List.mem_of_mem_take (fit_mem _ x hx))) (by omega)
    refine Ev.step (fun k => by simp only [tollgatelaw01_FrameRows.l0]; rfl) ?_
    by_cases hc : (i : Int) < (l0.length : Int)
    · refine Ev.pos hc ?_
      rw [decide_eq_false (show ¬ (i : Int) < 64 by omega)]
      exact he
    · exact Ev.neg hc he
  | succ d ih =>
    intro i hi
    have hlt : i < l0.length := by omega
    have hr : rd_L1 l0 (i : Int) = l0[i] := by simp [rd_L1, List.getD_eq_getElem?_getD, List.getElem?_eq_getElem hlt]
    have ht : l0.take (i + 1) = l0.take i ++ [l0[i]] := by rw [List.take_add_one, List.getElem?_eq_getElem hlt]; rfl
    have hw : wrap64 ((i : Int) + 1) = ((i + 1 : Nat) : Int) := by unfold wrap64; omega
    have hB := h0 l0[i] (List.getElem_mem hlt)
    have hf := fit_length (l0.take i)
    rw [List.length_take] at hf
    have h1 := cat_length (fit (l0.take i))
    have h2 := wt_le (fit (l0.take i)) (fit_le _)
    have hi' := ih (i + 1) (by omega)
    refine Ev.step (fun k => by simp only [tollgatelaw01_FrameRows.l0]; rfl) ?_
    refine Ev.pos (by omega) ?_
    rw [decide_eq_true (show (i : Int) < 64 by omega)]
    refine Ev.step (fun k => by simp only [tollgatelaw01_FrameRows.j1]; rfl) ?_
    refine Ev.pos trivial (Ev.pos (by omega) (Ev.pos (by omega) ?_))
    rw [hr, hw]
    refine Ev.call (Frame_f hB) ?_
    by_cases hL : (l0[i].length : Int) > 65536
    · rw [if_pos hL]
      refine Ev.neg (fun h : (6 : Int) = 0 => by omega) ?_
      rw [ht, fit_none (by omega)] at hi'
      exact hi'
    · rw [if_neg hL]
      have hFl := frameBytes_length l0[i]
      refine Ev.pos rfl (Ev.pos (by dsimp only; omega) (Ev.pos (by omega) ?_))
      rw [ht, fit_one (by omega), cat_append, cat_one] at hi'
      exact hi'
theorem FrameRows : tollgatelaw01_FrameRows.Pure2 := by
  intro l0 l1 a2 hB0 hB1 _hk
  refine Ev.rounds (r := true) ?_
  unfold tollgatelaw01_FrameRows.f
  have h := rows_loop l0 l1 a2 (B8_of hB1) (fun x hx => B8_of (hB0 x hx)) (min l0.length 64) 0 (by omega)
  simpa [fit, cat] using h
end Go.Proofs.Ytpjcamdligelmaa.Pure
