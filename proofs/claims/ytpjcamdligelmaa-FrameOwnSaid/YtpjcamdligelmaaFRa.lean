/- Rows that are framed one behind the other: what all frames of such bytes are. No program in sight. -/
import Derived.Test.YtpjcamdligelmaaFPc
namespace Go.Proofs.Ytpjcamdligelmaa.FP
open Go.RowKit Go.Proofs.Ytpjcamdligelmaa.Q Go.Proofs.YtpjcamdligelmaaW.PrintWords Go.Proofs.YtpjcamdligelmaaW.PrintLast Go.Proofs.YtpjcamdligelmaaW.PrintMore

/-- the frames of rows, one behind the other -/
def cat : List (List Int) → List Int
  | [] => []
  | x :: l => frameBytes x ++ cat l
theorem cat_append (a b : List (List Int)) : cat (a ++ b) = cat a ++ cat b := by
  induction a with
  | nil => rfl
  | cons x a ih => simp only [List.cons_append, cat, ih, List.append_assoc]
theorem cat_one (x : List Int) : cat [x] = frameBytes x := by simp [cat]
/-- the rows that fit into a frame -/
def fit (l : List (List Int)) : List (List Int) := l.filter (fun x => decide ((x.length : Int) ≤ 65536))
theorem fit_one {l : List (List Int)} {x : List Int} (h : (x.length : Int) ≤ 65536) : fit (l ++ [x]) = fit l ++ [x] := by
  simp [fit, List.filter_append, h]
theorem fit_none {l : List (List Int)} {x : List Int} (h : ¬ (x.length : Int) ≤ 65536) : fit (l ++ [x]) = fit l := by
  simp [fit, List.filter_append, h]
theorem fit_le (l : List (List Int)) : ∀ x ∈ fit l, x.length ≤ 65536 := by
  intro x hx
  have := (List.mem_filter.1 hx).2
  have := of_decide_eq_true this
  omega
theorem fit_mem (l : List (List Int)) : ∀ x ∈ fit l, x ∈ l := fun _ hx => (List.mem_filter.1 hx).1
theorem fit_length (l : List (List Int)) : (fit l).length ≤ l.length := List.length_filter_le _ _
theorem cat_B8 {l : List (List Int)} (h : ∀ x ∈ l, B8 x) : B8 (cat l) := by
  induction l with
  | nil => intro x hx; cases hx
  | cons x l ih => exact B8_append (frameBytes_B8 x (h x (by simp))) (ih (fun y hy => h y (by simp [hy])))
/-- what rows weigh -/
def wt (l : List (List Int)) : Nat := (l.map (fun x => x.length + 8)).sum
theorem cat_length (l : List (List Int)) : (cat l).length = wt l := by
  induction l with
  | nil => rfl
  | cons x l ih => simp only [cat, wt, List.length_append, frameBytes_length, List.map_cons, List.sum_cons] at *; omega
theorem wt_ge (l : List (List Int)) : 8 * l.length ≤ wt l := by
  induction l with
  | nil => simp [wt]
  | cons x l ih => simp only [wt, List.map_cons, List.sum_cons, List.length_cons] at *; omega
theorem wt_fit (l : List (List Int)) : wt (fit l) ≤ wt l := by
  induction l with
  | nil => simp [wt, fit]
  | cons x l ih =>
    unfold fit at ih ⊢
    rw [List.filter_cons]
    split
    · simp only [wt, List.map_cons, List.sum_cons] at *; omega
    · simp only [wt, List.map_cons, List.sum_cons] at *; omega
/-- ALL FRAMES of rows that stand one behind the other, and what stands behind them is none -/
theorem allOf_cat (q : List Int) : ∀ (ws : List (List Int)) (p : List Int) (out : List (List Int)) (d : Nat), (∀ x ∈ ws, x.length ≤ 65536) → ws.length < d →
    (nextOf ((p ++ cat ws) ++ q) ((p ++ cat ws).length : Int)).2.2 ≠ 0 → allOf d ((p ++ cat ws) ++ q) out (p.length : Int) = (out ++ ws, ((p ++ cat ws).length : Int)) := by
  intro ws
  induction ws with
  | nil =>
    intro p out d _ _ hq
    simp only [cat, List.append_nil] at hq ⊢
    exact allOf_stop hq out d
  | cons x ws ih =>
    intro p out d hx hd hq
    obtain ⟨d, rfl⟩ : ∃ e, d = e + 1 := ⟨d - 1, by simp only [List.length_cons] at hd; omega⟩
    have hn := nextOf_frame p x (cat ws ++ q) (hx x (by simp))
    have e1 : p ++ (frameBytes x ++ (cat ws ++ q)) = (p ++ cat (x :: ws)) ++ q := by simp [cat]
    have e2 : p ++ cat (x :: ws) = (p ++ frameBytes x) ++ cat ws := by simp [cat]
    rw [e1] at hn
    have e3 : (p.length : Int) + 8 + (x.length : Int) = ((p ++ frameBytes x).length : Int) := by rw [List.length_append, frameBytes_length]; omega
    simp only [allOf]
    rw [hn, if_pos rfl]
    dsimp only
    rw [e3, e2]
    rw [e2] at hq
    rw [ih (p ++ frameBytes x) (out ++ [x]) d (fun y hy => hx y (by simp [hy])) (by simp only [List.length_cons] at hd; omega) hq]
    simp
theorem nextOf_end (p : List Int) : (nextOf p (p.length : Int)).2.2 ≠ 0 := by
  have h := nextOf_cut p [] (by simp) 0 (by simp)
  simp only [List.take_zero, List.append_nil] at h
  rw [h]
  decide
end Go.Proofs.Ytpjcamdligelmaa.FP
