/- PlaneShares: of n equal weights each has its share. -/
import Derived.Test.YtlknaikdlkobjaaPSa
import Derived.Test.YtlknaikdlkobjaaQx20
import Derived.Test.YtlknaikdlkobjaaQxOp
import Derived.OpenShut
open Go.Proofs.Ytlknaikdlkobjaa.Q in
def _root_.Go.Proofs.Ytlknaikdlkobjaa.Q.tollgatelaw10_PlaneShares.Pure2 : Prop := ∀ (y0 : S46), ok46 y0 → ∃ k, tollgatelaw10_PlaneShares.f k y0.f0 y0.f1 y0.f2 y0.f3 = some true
namespace Go.Proofs.Ytlknaikdlkobjaa.Pure
open Go.RowKit Go.Proofs.Ytlknaikdlkobjaa.Q Go.Proofs.Ytlknaikdlkobjaa.PP Go.Proofs.YtlknaikdlkobjaaW.PrintWords Go.Proofs.YtlknaikdlkobjaaW.PrintLast Go.Proofs.YtlknaikdlkobjaaW.PrintMore Go.Proofs.Ytlknaikdlkobjaa.FL
def pairS (w : Nat) : List S44 := [⟨⟨#[97]⟩, GS w 1⟩, ⟨⟨#[98]⟩, 0⟩]
def shareL (w : Nat) : Nat → List S44
  | 0 => []
  | m + 1 => pairS w ++ shareL w m
theorem share_len (w : Nat) : ∀ m, (shareL w m).length = 2 * m
  | 0 => rfl
  | m + 1 => by
    unfold shareL
    rw [List.length_append, share_len w m]
    unfold pairS
    simp
    omega
theorem share_add (w : Nat) (n : Nat) : ∀ m, shareL w (m + n) = shareL w m ++ shareL w n
  | 0 => by rw [Nat.zero_add]; rfl
  | m + 1 => by
    rw [show m + 1 + n = (m + n) + 1 by omega]
    show pairS w ++ shareL w (m + n) = (pairS w ++ shareL w m) ++ shareL w n
    rw [share_add w n m, List.append_assoc]
theorem share_snoc (w m : Nat) : shareL w (m + 1) = shareL w m ++ pairS w := by
  rw [share_add w 1 m]
  show shareL w m ++ (pairS w ++ []) = _
  rw [List.append_nil]
theorem GS_mono {w : Nat} (hw : w < 256) : ∀ (d j : Nat), j + d ≤ 8 → GS w j ≤ GS w (j + d)
  | 0, _, _ => Nat.le_refl _
  | d + 1, j, h => by
    have h1 := GS_mono hw d j (by omega)
    have h2 := (step_at hw (show j + d < 8 by omega)).2.1
    rw [show j + (d + 1) = j + d + 1 by omega]
    omega
theorem GS_zero (w : Nat) : GS w 0 = 0 := by
  unfold GS
  rw [Nat.zero_mul]
  decide
theorem cnt_zero (t : Nat) : cntW t 0 = 0 := if_neg (by omega)
theorem GS_pos {w : Nat} (hw : w < 256) : 0 < GS w 1 ∧ GS w 1 < INF := by
  obtain ⟨_, h1, h2⟩ := step_at hw (show 0 < 8 by omega)
  rw [GS_zero] at h1
  exact ⟨h1, h2⟩
theorem GS_le {w m : Nat} (hw : w < 256) (hm : m ≤ 8) : GS w m < INF := by
  rcases Nat.eq_zero_or_pos m with rfl | h
  · rw [GS_zero]; decide
  · obtain ⟨j, rfl⟩ : ∃ j, m = j + 1 := ⟨m - 1, by omega⟩
    exact (step_at hw (by omega)).2.2
theorem sum_snoc (t : Nat) (l : List S44) (y : S44) : sumAt t (l ++ [y]) = addS (sumAt t l) (cntW t y.f1) := by
  unfold sumAt
  rw [List.foldl_append]
  rfl
theorem share_sum {w : Nat} (hw : w < 256) : ∀ m, m ≤ 8 → sumAt ONE (shareL w m) = GS w m
  | 0, _ => (GS_zero w).symm
  | m + 1, h => by
    rw [share_snoc, show pairS w = [⟨⟨#[97]⟩, GS w 1⟩] ++ [⟨⟨#[98]⟩, 0⟩] from rfl, ← List.append_assoc, sum_snoc, sum_snoc, share_sum hw m (by omega), cnt_zero, addS_zero (addS_le _ _)]
    obtain ⟨p1, p2⟩ := GS_pos hw
    rw [cntW_one p1 p2]
    exact (step_at hw (by omega)).1
theorem share_half {w m j : Nat} (hw : w < 256) (hj : j < m) (hm : m ≤ 8) : sumAt ONE ((shareL w m).take (2 * j + 1)) = GS w (j + 1) := by
  have e : shareL w m = (shareL w j ++ [⟨⟨#[97]⟩, GS w 1⟩]) ++ (⟨⟨#[98]⟩, 0⟩ :: shareL w (m - j - 1)) := by
    have e2 : shareL w m = shareL w (j + ((m - j - 1) + 1)) := by congr 1; omega
    rw [e2, share_add, List.append_assoc]
    rfl
  rw [e, List.take_left' (by rw [List.length_append, share_len]; rfl), sum_snoc, share_sum hw j (by omega)]
  obtain ⟨p1, p2⟩ := GS_pos hw
  rw [cntW_one p1 p2]
  exact (step_at hw (by omega)).1
theorem share_pick {w m i d x : Nat} (hw : w < 256) (hm : m ≤ 8) (hi : i < m) (hd : d < ONE) (h1 : GS w i ≤ x) (h2 : x < GS w (i + 1)) : ∀ (r j last : Nat), j + r = m → j ≤ i →
    pick ONE (fun k => sumAt ONE ((shareL w m).take (k + 1))) d x (shareL w r) (2 * j) last = 2 * i
  | 0, j, last, h, hj => by omega
  | r + 1, j, last, h, hj => by
    obtain ⟨p1, p2⟩ := GS_pos hw
    show pick ONE _ d x (⟨⟨#[97]⟩, GS w 1⟩ :: ⟨⟨#[98]⟩, 0⟩ :: shareL w r) (2 * j) last = 2 * i
    unfold pick
    rw [if_pos (by rw [cntW_one p1 p2]; exact p1), share_half hw (by omega) hm]
    by_cases hc : d < ONE ∧ x < GS w (j + 1)
    · rw [if_pos hc]
      rcases Nat.eq_or_lt_of_le hj with e | hlt
      · rw [e]
      · exfalso
        have := GS_mono hw (i - (j + 1)) (j + 1) (by omega)
        rw [show j + 1 + (i - (j + 1)) = i by omega] at this
        omega
    · rw [if_neg hc]
      have hji : j ≠ i := fun e => hc ⟨hd, by rw [e]; exact h2⟩
      unfold pick
      rw [if_neg (by rw [cnt_zero]; omega)]
      exact share_pick hw hm hi hd h1 h2 r (j + 1) (2 * j) (by omega) (by omega)
theorem share_weigh {w m i d : Nat} (hw : w < 256) (hm : m ≤ 8) (hi : i < m) (hd : d < ONE) (h1 : GS w i ≤ prodS d (GS w m)) (h2 : prodS d (GS w m) < GS w (i + 1)) : weighF (shareL w m) d = (((2 * i : Nat) : Int), true) := by
  have hs := share_sum hw m hm
  have hl := GS_le hw hm
  have hT : TT (shareL w m) = ONE := by
    unfold TT
    rw [hs, if_neg (by omega)]
  have hA : allW (shareL w m) = GS w m := by unfold allW; rw [hT, hs]
  have hpos : 0 < GS w m := by
    have := GS_mono hw (m - 1) 1 (by omega)
    rw [show 1 + (m - 1) = m by omega] at this
    have := (GS_pos hw).1
    omega
  have he : eff d = d := if_pos (by have := one_lt; omega)
  unfold weighF
  rw [hA, hT, he, if_pos hpos]
  have := share_pick (d := d) (x := prodS d (GS w m)) hw hm hi hd h1 h2 m 0 0 (by omega) (by omega)
  rw [Nat.mul_zero] at this
  rw [this]
theorem Shares_body (n i far w : Nat) (hn : n < 4) (hi : i < 2 ^ n) (hf : far < 256) (hw : w < 256) :
    Ev (fun k => tollgatelaw10_PlaneShares.l0 k (far : Int) (w : Int) ((2 ^ n : Nat) : Int) (i : Int) (shareL w (2 ^ n)) ((2 ^ n : Nat) : Int)) true := by
  have h1 := List.all_eq_true.1 (List.all_eq_true.1 (List.all_eq_true.1 okS_all n (List.mem_range.2 hn)) i (List.mem_range.2 hi)) far (List.mem_range.2 hf)
  have h2 := ends_at hw hn hi
  have hm : 2 ^ n ≤ 8 := by
    have : n = 0 ∨ n = 1 ∨ n = 2 ∨ n = 3 := by omega
    rcases this with rfl | rfl | rfl | rfl <;> decide
  generalize 2 ^ n = m at *
  unfold okS at h1
  simp only [Bool.and_eq_true, decide_eq_true_eq] at h1
  obtain ⟨o1, o2, o3, o4, o5, o6⟩ := h1
  obtain ⟨e1, e2⟩ := h2
  have hl : (shareL w m).length ≤ 40 := by rw [share_len]; omega
  have hp := (GS_pos hw).2
  have hw2 : ∀ (r : Nat), ∀ y ∈ shareL w r, y.f1 < 18446744073709551616 := by
    intro r
    induction r with
    | zero => intro y hy; cases hy
    | succ r ih =>
      intro y hy
      unfold shareL pairS at hy
      rcases List.mem_append.1 hy with hy | hy
      · rcases List.mem_cons.1 hy with rfl | hy
        · unfold INF at hp; show GS w 1 < _; omega
        · rw [List.mem_singleton.1 hy]; decide
      · exact ih y hy
  have hlt : drawS m i far < ONE := Nat.lt_of_le_of_lt o5 o6
  have h64 : drawS m i far < 18446744073709551616 := Nat.lt_trans hlt (by decide)
  have hW : weighF (shareL w m) (drawS m i far) = (((2 * i : Nat) : Int), true) := share_weigh hw hm hi hlt (Nat.le_trans e1 (prodS_mono _ o4)) (Nat.lt_of_le_of_lt (prodS_mono _ o5) e2)
  have b1 := Weigh_is (shareL w m) hl (hw2 m) (drawS m i far) h64
  rw [hW] at b1
  refine Ev.step (fun k => by simp only [tollgatelaw10_PlaneShares.l0]; rfl) (Ev.neg (by omega) (Ev.pos o1 (Ev.pos o2 (Ev.pos o3 ?_))))
  refine Ev.bind b1 (Ev.bind live_is (Ev.pos rfl (Ev.pos rfl (Ev.ret ?_))))
  rw [show wrap64 (2 * (i : Int)) = ((2 * i : Nat) : Int) by unfold wrap64; omega]
  simp
theorem Shares_loop (m i far w : Nat) (hm : m ≤ 8) (hw : w < 256) (h : Ev (fun k => tollgatelaw10_PlaneShares.l0 k (far : Int) (w : Int) (m : Int) (i : Int) (shareL w m) (m : Int)) true) : ∀ (d j : Nat), j + d = m →
    Ev (fun k => tollgatelaw10_PlaneShares.l0 k (far : Int) (w : Int) (m : Int) (i : Int) (shareL w j) (j : Int)) true := by
  intro d
  induction d with
  | zero =>
    intro j hj
    obtain rfl : j = m := by omega
    exact h
  | succ d ih =>
    intro j hj
    have hc : fint (wrap64 (wrap64 (w : Int) + 1)) = GS w 1 := by
      unfold GS
      rw [Nat.one_mul]
      congr 1
      unfold wrap64
      omega
    refine Ev.step (fun k => by simp only [tollgatelaw10_PlaneShares.l0]; rfl) (Ev.pos (by omega) (Ev.put ?_))
    rw [hc]
    refine Ev.pos (by rw [share_len]; simp only [List.length_cons, List.length_nil]; omega) ?_
    have hst : wrap64 ((j : Int) + 1) = ((j + 1 : Nat) : Int) := by unfold wrap64; omega
    rw [hst]
    have := ih (j + 1) (by omega)
    rw [share_snoc] at this
    exact this
theorem PlaneShares : tollgatelaw10_PlaneShares.Pure2 := by
  intro y hy
  refine Ev.rounds (r := true) ?_
  obtain ⟨w0, w1, w2, w3⟩ := hy
  have b0 := bounds_u8 w0
  have b1 := bounds_u8 w1
  have b2 := bounds_u8 w2
  have b3 := bounds_u8 w3
  generalize y.f0 = a0 at *
  generalize y.f1 = a1 at *
  generalize y.f2 = a2 at *
  generalize y.f3 = a3 at *
  unfold tollgatelaw10_PlaneShares.f
  obtain ⟨z, rfl⟩ : ∃ z : Nat, a0 = (z : Int) := ⟨a0.toNat, by omega⟩
  obtain ⟨n, hn, hn4⟩ : ∃ n : Nat, Int.tmod (z : Int) 4 = (n : Int) ∧ n < 4 := ⟨z % 4, rfl, Nat.mod_lt _ (by omega)⟩
  obtain ⟨far, rfl⟩ : ∃ far : Nat, a2 = (far : Int) := ⟨a2.toNat, by omega⟩
  obtain ⟨w, rfl⟩ : ∃ w : Nat, a3 = (w : Int) := ⟨a3.toNat, by omega⟩
  rw [hn]
  have hs : shl .i64 1 (n : Int) = ((2 ^ n : Nat) : Int) := by
    have : n = 0 ∨ n = 1 ∨ n = 2 ∨ n = 3 := by omega
    rcases this with rfl | rfl | rfl | rfl <;> decide
  have hm8 : 2 ^ n ≤ 8 ∧ 1 ≤ 2 ^ n := by
    have : n = 0 ∨ n = 1 ∨ n = 2 ∨ n = 3 := by omega
    rcases this with rfl | rfl | rfl | rfl <;> decide
  rw [hs]
  have hw : wrap64 a1 = a1 := by unfold wrap64; omega
  rw [hw]
  obtain ⟨x, rfl⟩ : ∃ x : Nat, a1 = (x : Int) := ⟨a1.toNat, by omega⟩
  have ht : Int.tmod (x : Int) ((2 ^ n : Nat) : Int) = ((x % (2 ^ n) : Nat) : Int) := rfl
  rw [ht]
  refine Ev.pos (by omega) (Ev.neg (by omega) ?_)
  have hb := Shares_body n (x % (2 ^ n)) far w hn4 (Nat.mod_lt _ (by omega)) (by omega) (by omega)
  exact Shares_loop (2 ^ n) _ far w hm8.1 (by omega) hb (2 ^ n) 0 (by omega)
end Go.Proofs.Ytlknaikdlkobjaa.Pure
