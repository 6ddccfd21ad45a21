/- The target that a draw takes: what the program's Weigh computes, as whole numbers. -/
import Derived.Test.YtlknaikdlkobjaaFLb
import Derived.Test.YtlknaikdlkobjaaPPb
import Derived.Test.YtlknaikdlkobjaaQx5
import Derived.Test.YtlknaikdlkobjaaQx6
import Derived.Test.YtlknaikdlkobjaaQx7
namespace Go.Proofs.Ytlknaikdlkobjaa.PP
open Go.RowKit Go.Proofs.Ytlknaikdlkobjaa.Q Go.Proofs.YtlknaikdlkobjaaW.PrintWords Go.Proofs.YtlknaikdlkobjaaW.PrintLast Go.Proofs.YtlknaikdlkobjaaW.PrintMore Go.Proofs.Ytlknaikdlkobjaa.FL
abbrev ONE : Nat := 4607182418800017408
abbrev TH : Nat := 4562146422526312448
theorem one_lt : ONE < INF := by decide
theorem th_lt : TH < INF := by decide
theorem th_pos : 0 < TH := by decide
theorem one_pos : 0 < ONE := by decide
/-! the operations, where none of the operands is negative -/
def addS (s c : Nat) : Nat := if s < INF then (if c < INF then rnd (val s + val c) else INF) else INF
def prodS (d a : Nat) : Nat := if d < INF then rnd2 (val d * val a) else INF
theorem addS_is {s c : Nat} (hs : s ≤ INF) (hc : c ≤ INF) : faddOk s c = true ∧ fadd s c = addS s c := by
  unfold faddOk fadd addS
  by_cases h1 : s < INF
  · by_cases h2 : c < INF
    · rw [add_fin h1 h2, if_pos h1, if_pos h2]; exact ⟨rfl, rfl⟩
    · obtain rfl : c = INF := by omega
      rw [add_inf_r hs, if_pos h1, if_neg h2]; exact ⟨rfl, rfl⟩
  · obtain rfl : s = INF := by omega
    rw [add_inf_l hc, if_neg h1]; exact ⟨rfl, rfl⟩
theorem addS_le (s c : Nat) : addS s c ≤ INF := by
  unfold addS
  split
  · split
    · exact rnd_le _
    · exact Nat.le_refl _
  · exact Nat.le_refl _
theorem addS_mono {s s' c c' : Nat} (h : s ≤ s') (h' : c ≤ c') : addS s c ≤ addS s' c' := by
  by_cases h1 : s' < INF
  · by_cases h2 : c' < INF
    · unfold addS
      rw [if_pos (by omega), if_pos (by omega), if_pos h1, if_pos h2]
      exact add_mono h h' h1 h2
    · have : addS s' c' = INF := by unfold addS; rw [if_pos h1, if_neg h2]
      rw [this]; exact addS_le _ _
  · have : addS s' c' = INF := by unfold addS; rw [if_neg h1]
    rw [this]; exact addS_le _ _
theorem addS_zero {s : Nat} (hs : s ≤ INF) : addS s 0 = s := by
  unfold addS
  by_cases h : s < INF
  · rw [if_pos h, if_pos (by decide), val_zero, Nat.add_zero, rnd_val h]
  · rw [if_neg h]; omega
theorem zero_addS {s : Nat} (hs : s ≤ INF) : addS 0 s = s := by
  unfold addS
  by_cases h : s < INF
  · rw [if_pos (by decide), if_pos h, val_zero, Nat.zero_add, rnd_val h]
  · rw [if_pos (by decide), if_neg h]; omega
theorem le_addS_l {s : Nat} (c : Nat) (hs : s ≤ INF) : s ≤ addS s c := by
  have := addS_mono (Nat.le_refl s) (Nat.zero_le c)
  rw [addS_zero hs] at this
  exact this
theorem le_addS_r (s : Nat) {c : Nat} (hc : c ≤ INF) : c ≤ addS s c := by
  have := addS_mono (Nat.zero_le s) (Nat.le_refl c)
  rw [zero_addS hc] at this
  exact this
theorem prodS_is {d a : Nat} (hd : d ≤ INF) (ha : a < INF) (h0 : 0 < a) : fmulOk d a = true ∧ fmul d a = prodS d a := by
  unfold fmulOk fmul prodS
  by_cases h1 : d < INF
  · rw [mul_fin h1 ha, if_pos h1]; exact ⟨rfl, rfl⟩
  · obtain rfl : d = INF := by omega
    rw [mul_inf_l ha h0, if_neg h1]; exact ⟨rfl, rfl⟩
theorem prodS_le (d a : Nat) : prodS d a ≤ INF := by
  unfold prodS
  split
  · exact near_le _ _
  · exact Nat.le_refl _
theorem prodS_mono {d d' : Nat} (a : Nat) (h : d ≤ d') : prodS d a ≤ prodS d' a := by
  by_cases h1 : d' < INF
  · unfold prodS
    rw [if_pos (by omega), if_pos h1]
    exact rnd2_mono (Nat.mul_le_mul_right _ (val_mono (by omega) h1 h))
  · have : prodS d' a = INF := by unfold prodS; rw [if_neg h1]
    rw [this]; exact prodS_le _ _
theorem fgtr_is {w : Nat} (h : w < 18446744073709551616) : fgtr w 0 = decide (0 < w ∧ w ≤ INF) := by
  unfold fgtr
  rw [Bool.eq_iff_iff, beq_iff_eq, decide_eq_true_eq]
  exact gt0 h
theorem flss_is {a b : Nat} (ha : a ≤ INF) (hb : b ≤ INF) : flss a b = decide (a < b) := by
  unfold flss
  rw [Bool.eq_iff_iff, beq_iff_eq, decide_eq_true_eq, order_nn ha hb]
  constructor
  · intro h; injection h with h; exact Nat.compare_eq_lt.1 h
  · intro h; rw [Nat.compare_eq_lt.2 h]
theorem fgtr_nn {a b : Nat} (ha : a ≤ INF) (hb : b ≤ INF) : fgtr a b = decide (b < a) := by
  unfold fgtr
  rw [Bool.eq_iff_iff, beq_iff_eq, decide_eq_true_eq, order_nn ha hb]
  constructor
  · intro h; injection h with h; exact Nat.compare_eq_gt.1 h
  · intro h; rw [Nat.compare_eq_gt.2 h]
theorem isInf_is {s : Nat} (hs : s ≤ INF) : math_IsInf.f s 1 = some (decide (s = INF)) := by
  unfold math_IsInf.f
  rw [if_neg (by omega), if_neg (by omega), fgtr_nn hs (by decide)]
  congr 1
  rw [decide_eq_decide]
  unfold INF at *
  omega
/-! what a weight counts; the sums -/
def cntW (t w : Nat) : Nat := if 0 < w ∧ w < INF then rnd2 (val w * val t) else 0
theorem cntW_le (t w : Nat) : cntW t w ≤ INF := by
  unfold cntW
  split
  · exact near_le _ _
  · exact Nat.zero_le _
theorem counts_is {t w : Nat} (ht : t < INF) (hw : w < 18446744073709551616) : plane_counts.f w t = some (cntW t w) := by
  unfold plane_counts.f cntW
  rw [fgtr_is hw]
  by_cases h1 : 0 < w ∧ w ≤ INF
  · rw [decide_eq_true h1, if_pos rfl, isInf_is h1.2]
    by_cases h2 : w = INF
    · have e : ¬ (0 < w ∧ w < INF) := by omega
      rw [decide_eq_true h2, if_neg e]
      rfl
    · have e : 0 < w ∧ w < INF := by omega
      rw [decide_eq_false h2, if_pos e]
      unfold fmulOk fmul
      rw [mul_fin e.2 ht]
      rfl
  · have e : ¬ (0 < w ∧ w < INF) := by omega
    rw [decide_eq_false h1, if_neg e]
    rfl
def sumAt (t : Nat) (l : List S44) : Nat := l.foldl (fun s x => addS s (cntW t x.f1)) 0
theorem sumAt_le (t : Nat) (l : List S44) : sumAt t l ≤ INF := by
  unfold sumAt
  have : ∀ (l : List S44) (s : Nat), s ≤ INF → l.foldl (fun s x => addS s (cntW t x.f1)) s ≤ INF := by
    intro l
    induction l with
    | nil => intro s hs; exact hs
    | cons x l ih => intro s _; exact ih _ (addS_le _ _)
  exact this l 0 (Nat.zero_le _)
def sumsL (t : Nat) (l : List S44) : List Nat := (List.range l.length).map (fun i => sumAt t (l.take (i + 1)))
theorem rd44_drop {l : List S44} {i : Nat} (h : i < l.length) : l.drop i = rd_T44 l (i : Int) :: l.drop (i + 1) := by
  rw [List.drop_eq_getElem_cons h]
  simp [rd_T44, List.getD_eq_getElem?_getD, List.getElem?_eq_getElem h]
theorem rd44_take {l : List S44} {i : Nat} (h : i < l.length) : l.take (i + 1) = l.take i ++ [rd_T44 l (i : Int)] := by
  rw [List.take_add_one, List.getElem?_eq_getElem h]
  simp [rd_T44, List.getD_eq_getElem?_getD, List.getElem?_eq_getElem h]
theorem rd44_mem {l : List S44} {i : Nat} (h : i < l.length) : rd_T44 l (i : Int) ∈ l := List.mem_of_mem_drop (i := i) (by rw [rd44_drop h]; exact List.mem_cons_self)
theorem sumAt_step (t : Nat) {l : List S44} {i : Nat} (h : i < l.length) : sumAt t (l.take (i + 1)) = addS (sumAt t (l.take i)) (cntW t (rd_T44 l (i : Int)).f1) := by
  rw [rd44_take h]
  unfold sumAt
  rw [List.foldl_append]
  rfl
theorem sums_is {t : Nat} (ht : t < INF) (l : List S44) (hl : l.length ≤ 40) (hw : ∀ y ∈ l, y.f1 < 18446744073709551616) : Ev (fun k => plane_sums.f k l t) (sumsL t l) := by
  unfold plane_sums.f
  refine Ev.pos (by omega) (Ev.pos (by rw [Int.toNat_natCast]; omega) ?_)
  rw [Int.toNat_natCast]
  have loop : ∀ (d i : Nat), i + d = l.length → Ev (fun k => plane_sums.l0 k t ((sumsL t l).take i ++ List.replicate d 0) (sumAt t (l.take i)) l (l.length : Int) (i : Int)) (sumsL t l) := by
    intro d
    induction d with
    | zero =>
      intro i hi
      refine Ev.step (fun k => by simp only [plane_sums.l0]; rfl) (Ev.neg (by omega) (Ev.ret ?_))
      rw [List.take_of_length_le (by unfold sumsL; rw [List.length_map, List.length_range]; omega)]
      simp
    | succ d ih =>
      intro i hi
      have h1 : i < l.length := by omega
      obtain ⟨a1, a2⟩ := addS_is (sumAt_le t (l.take i)) (cntW_le t (rd_T44 l (i : Int)).f1)
      have hsl : (sumsL t l).length = l.length := by unfold sumsL; rw [List.length_map, List.length_range]
      have hlen : ((sumsL t l).take i ++ List.replicate (d + 1) 0).length = l.length := by
        rw [List.length_append, List.length_take, List.length_replicate]; omega
      refine Ev.step (fun k => by simp only [plane_sums.l0]; rfl) (Ev.pos (by omega) (Ev.pos (by omega) (Ev.pos (by omega) (Ev.call (counts_is ht (hw _ (rd44_mem h1))) (Ev.pos a1 ?_)))))
      refine Ev.pos (by rw [hlen]; omega) ?_
      have hw : wrap64 ((i : Int) + 1) = ((i + 1 : Nat) : Int) := by unfold wrap64; omega
      rw [a2, ← sumAt_step t h1, hw, Int.toNat_natCast]
      have e : ((sumsL t l).take i ++ List.replicate (d + 1) 0).set i (sumAt t (l.take (i + 1))) = (sumsL t l).take (i + 1) ++ List.replicate d 0 := by
        have h2 : (sumsL t l)[i]? = some (sumAt t (l.take (i + 1))) := by
          unfold sumsL
          rw [List.getElem?_map, List.getElem?_range h1]
          rfl
        have h3 : (sumsL t l).take (i + 1) = (sumsL t l).take i ++ [sumAt t (l.take (i + 1))] := by
          rw [List.take_add_one (l := sumsL t l), h2]
          rfl
        rw [List.set_append_right _ _ (by rw [List.length_take]; omega), h3]
        rw [show i - ((sumsL t l).take i).length = 0 by rw [List.length_take]; omega]
        simp [List.replicate_succ]
      rw [e]
      exact ih (i + 1) (by omega)
  exact loop l.length 0 (by omega)
/-! the draw -/
def pick (t : Nat) (S : Nat → Nat) (d x : Nat) : List S44 → Nat → Nat → Nat
  | [], _, last => last
  | y :: l, i, last => if 0 < cntW t y.f1 then (if d < ONE ∧ x < S i then i else pick t S d x l (i + 1) i) else pick t S d x l (i + 1) last
theorem pick_is {t : Nat} (ht : t < INF) (l : List S44) (hl : l.length ≤ 40) (hw : ∀ y ∈ l, y.f1 < 18446744073709551616) {D X d x : Nat} (hD : flss D ONE = decide (d < ONE)) (hX : ∀ s, s ≤ INF → flss X s = decide (x < s)) : ∀ (n i : Nat), i + n = l.length → ∀ last : Nat,
    Ev (fun k => plane_Weigh.l0 k D (sumsL t l) t (last : Int) X l (l.length : Int) (i : Int)) ((pick t (fun i => sumAt t (l.take (i + 1))) d x (l.drop i) i last : Int), true) := by
  intro n
  induction n with
  | zero =>
    intro i hi last
    refine Ev.step (fun k => by simp only [plane_Weigh.l0]; rfl) (Ev.neg (by omega) (Ev.ret ?_))
    rw [List.drop_eq_nil_of_le (by omega)]
    rfl
  | succ n ih =>
    intro i hi last
    have h1 : i < l.length := by omega
    have hst : wrap64 ((i : Int) + 1) = ((i + 1 : Nat) : Int) := by unfold wrap64; omega
    have hsl : (sumsL t l).length = l.length := by unfold sumsL; rw [List.length_map, List.length_range]
    have hrd : rdOf 0 (sumsL t l) (i : Int) = sumAt t (l.take (i + 1)) := by
      unfold rdOf sumsL
      rw [Int.toNat_natCast, List.getD_eq_getElem?_getD, List.getElem?_map, List.getElem?_range h1]
      rfl
    refine Ev.step (fun k => by simp only [plane_Weigh.l0]; rfl) (Ev.pos (by omega) (Ev.pos (by omega) (Ev.pos (by omega) (Ev.call (counts_is ht (hw _ (rd44_mem h1))) ?_))))
    rw [hst, hrd, rd44_drop h1, hD, hX _ (sumAt_le _ _)]
    generalize hc : cntW t (rd_T44 l (i : Int)).f1 = c
    have hcl : c ≤ INF := by rw [← hc]; exact cntW_le _ _
    rw [fgtr_nn hcl (Nat.zero_le _)]
    simp only [pick, hc]
    by_cases h2 : 0 < c
    · rw [if_pos h2]
      refine Ev.pos (decide_eq_true h2) ?_
      by_cases h3 : d < ONE
      · refine Ev.pos (decide_eq_true h3) (Ev.pos (by rw [hsl]; omega) ?_)
        by_cases h4 : x < sumAt t (l.take (i + 1))
        · rw [if_pos ⟨h3, h4⟩]
          exact Ev.pos (decide_eq_true h4) (Ev.ret rfl)
        · rw [if_neg (fun h => h4 h.2)]
          exact Ev.neg (by simp [h4]) (ih (i + 1) (by omega) i)
      · rw [if_neg (fun h => h3 h.1)]
        exact Ev.neg (by simp only [decide_eq_true_eq]; exact h3) (ih (i + 1) (by omega) i)
    · rw [if_neg h2]
      exact Ev.neg (by simp only [decide_eq_true_eq]; exact h2) (ih (i + 1) (by omega) last)
/-! how the weights are counted -/
def TT (l : List S44) : Nat := if sumAt ONE l = INF then TH else ONE
def allW (l : List S44) : Nat := sumAt (TT l) l
theorem TT_lt (l : List S44) : TT l < INF := by unfold TT; split; exact th_lt; exact one_lt
theorem fold_bound (t B : Nat) : ∀ (l : List S44) (s s' : Nat), s ≤ s' → (∀ y ∈ l, cntW t y.f1 ≤ B) → ∀ n, l.length ≤ n → s' ≤ INF → l.foldl (fun s x => addS s (cntW t x.f1)) s ≤ (List.range n).foldl (fun s _ => addS s B) s'
  | [], s, s', h, _, n, _, h' => by
    have : ∀ (l : List Nat) (s' : Nat), s ≤ s' → s' ≤ INF → s ≤ l.foldl (fun s _ => addS s B) s' := by
      intro l
      induction l with
      | nil => intro s' h _; exact h
      | cons x l ih => intro s' h h'; exact ih _ (Nat.le_trans h (le_addS_l B h')) (addS_le _ _)
    exact this _ _ h h'
  | y :: l, s, s', h, hB, n, hn, h' => by
    obtain ⟨m, rfl⟩ : ∃ m, n = m + 1 := ⟨n - 1, by simp at hn; omega⟩
    rw [List.range_succ_eq_map, List.foldl_cons, List.foldl_cons, List.foldl_map]
    exact fold_bound t B l _ _ (addS_mono h (hB y List.mem_cons_self)) (fun z hz => hB z (List.mem_cons_of_mem _ hz)) m (by simpa using hn) (addS_le _ _)
theorem great_sum : (List.range 40).foldl (fun s _ => addS s (cntW TH 9218868437227405311)) 0 < INF := by decide +kernel
theorem small_sum : (List.range 40).foldl (fun s _ => addS s 103582791429521408) 0 < INF := by decide +kernel
theorem small_pos : 0 < rnd2 (val 103582791429521408 * val TH) := by decide +kernel
theorem cntW_great (w : Nat) : cntW TH w ≤ cntW TH 9218868437227405311 := by
  have e : cntW TH 9218868437227405311 = rnd2 (val 9218868437227405311 * val TH) := if_pos (by decide)
  rw [e]
  unfold cntW
  split
  · rename_i h
    unfold INF at h
    exact mul_mono (by omega) (by decide)
  · exact Nat.zero_le _
theorem allW_lt (l : List S44) (hl : l.length ≤ 40) : allW l < INF := by
  unfold allW TT
  split
  · exact Nat.lt_of_le_of_lt (fold_bound TH _ l 0 0 (Nat.le_refl _) (fun y _ => cntW_great y.f1) 40 hl (Nat.zero_le _)) great_sum
  · rename_i h
    have := sumAt_le ONE l
    omega
theorem fold_ge (t : Nat) : ∀ (l : List S44) (s : Nat), s ≤ INF → s ≤ l.foldl (fun s x => addS s (cntW t x.f1)) s ∧ ∀ y ∈ l, cntW t y.f1 ≤ l.foldl (fun s x => addS s (cntW t x.f1)) s
  | [], s, _ => ⟨Nat.le_refl _, by simp⟩
  | y :: l, s, hs => by
    obtain ⟨i1, i2⟩ := fold_ge t l (addS s (cntW t y.f1)) (addS_le _ _)
    rw [List.foldl_cons]
    refine ⟨Nat.le_trans (le_addS_l _ hs) i1, fun z hz => ?_⟩
    rcases List.mem_cons.1 hz with rfl | hz
    · exact Nat.le_trans (le_addS_r _ (cntW_le _ _)) i1
    · exact i2 z hz
theorem sum_ge (t : Nat) (l : List S44) {y : S44} (hy : y ∈ l) : cntW t y.f1 ≤ sumAt t l := (fold_ge t l 0 (Nat.zero_le _)).2 y hy
theorem sum_zero (t : Nat) : ∀ (l : List S44), (∀ y ∈ l, cntW t y.f1 = 0) → sumAt t l = 0 := by
  unfold sumAt
  intro l
  induction l with
  | nil => intro _; rfl
  | cons y l ih =>
    intro h
    rw [List.foldl_cons, h y List.mem_cons_self, addS_zero (Nat.zero_le _)]
    exact ih (fun z hz => h z (List.mem_cons_of_mem _ hz))
theorem cntW_one {w : Nat} (h0 : 0 < w) (h : w < INF) : cntW ONE w = w := by
  unfold cntW
  rw [if_pos ⟨h0, h⟩]
  exact FL.mul_one h
theorem cntW_pos {t w : Nat} (h : 0 < cntW t w) : 0 < w ∧ w < INF := by
  unfold cntW at h
  split at h
  · assumption
  · omega
/-- Some weight counts just if the sum is not nought. -/
theorem all_pos (l : List S44) (hl : l.length ≤ 40) : 0 < allW l ↔ ∃ y ∈ l, 0 < y.f1 ∧ y.f1 < INF := by
  constructor
  · intro h
    rcases Classical.em (∃ y ∈ l, 0 < cntW (TT l) y.f1) with ⟨y, hy, hc⟩ | hn
    · exact ⟨y, hy, cntW_pos hc⟩
    · exfalso
      have : allW l = 0 := sum_zero _ l (fun y hy => by
        rcases Nat.eq_zero_or_pos (cntW (TT l) y.f1) with e | e
        · exact e
        · exact absurd ⟨y, hy, e⟩ hn)
      omega
  · rintro ⟨y, hy, h0, h1⟩
    unfold allW TT
    split
    · rename_i hI
      rcases Nat.eq_zero_or_pos (sumAt TH l) with e | e
      · exfalso
        have hb : ∀ z ∈ l, cntW ONE z.f1 ≤ 103582791429521408 := by
          intro z hz
          have h3 := sum_ge TH l hz
          by_cases h4 : 0 < z.f1 ∧ z.f1 < INF
          · rw [cntW_one h4.1 h4.2]
            rcases Nat.lt_or_ge z.f1 103582791429521408 with h5 | h5
            · omega
            · exfalso
              have h6 : rnd2 (val 103582791429521408 * val TH) ≤ rnd2 (val z.f1 * val TH) := mul_mono h5 h4.2
              have h7 : cntW TH z.f1 = rnd2 (val z.f1 * val TH) := if_pos h4
              have := small_pos
              omega
          · have : cntW ONE z.f1 = 0 := if_neg h4
            omega
        have := fold_bound ONE _ l 0 0 (Nat.le_refl _) hb 40 hl (Nat.zero_le _)
        have h2 := small_sum
        have h3 : sumAt ONE l = l.foldl (fun s x => addS s (cntW ONE x.f1)) 0 := rfl
        omega
      · exact e
    · have := sum_ge ONE l hy
      rw [cntW_one h0 h1] at this
      omega
/-- What Weigh computes. -/
def weighF (l : List S44) (d : Nat) : Int × Bool := if 0 < allW l then ((pick (TT l) (fun i => sumAt (TT l) (l.take (i + 1))) (eff d) (prodS (eff d) (allW l)) l 0 0 : Int), true) else (0, false)
theorem last_is' (t : Nat) (l : List S44) (h : 0 < l.length) : rdOf 0 (sumsL t l) (((l.length - 1 : Nat) : Int)) = sumAt t l := by
  unfold rdOf sumsL
  rw [Int.toNat_natCast, List.getD_eq_getElem?_getD, List.getElem?_map, List.getElem?_range (by omega)]
  simp only [Option.map_some, Option.getD_some]
  rw [List.take_of_length_le (by omega)]
theorem Weigh_is (l : List S44) (hl : l.length ≤ 40) (hw : ∀ y ∈ l, y.f1 < 18446744073709551616) (d : Nat) (hd : d < 18446744073709551616) : Ev (fun k => plane_Weigh.f k l d) (weighF l d) := by
  unfold plane_Weigh.f
  by_cases h0 : l.length = 0
  · refine Ev.pos (by omega) (Ev.ret ?_)
    have : l = [] := List.length_eq_zero_iff.1 h0
    subst this
    unfold weighF allW
    rw [if_neg (by rw [show sumAt (TT []) [] = 0 from rfl]; omega)]
  · have hp : 0 < l.length := by omega
    have hsl : ∀ t, (sumsL t l).length = l.length := fun t => by unfold sumsL; rw [List.length_map, List.length_range]
    have hlast : wrap64 ((l.length : Int) - 1) = ((l.length - 1 : Nat) : Int) := by unfold wrap64; omega
    have rest : Ev (fun k => plane_Weigh.j0 k l d (sumsL (TT l) l) (TT l)) (weighF l d) := by
      refine Ev.step (fun k => by simp only [plane_Weigh.j0]; rfl) ?_
      rw [hsl, hlast, last_is' _ l hp]
      refine Ev.pos (by omega) (Ev.pos (by omega) ?_)
      have hal := allW_lt l hl
      show Ev (fun k => if fgtr (allW l) 0 = true then _ else _) _
      rw [fgtr_nn (Nat.le_of_lt hal) (Nat.zero_le _)]
      by_cases h1 : 0 < allW l
      · refine Ev.pos (decide_eq_true h1) ?_
        unfold weighF
        rw [if_pos h1]
        have go : ∀ D, D ≤ INF → D = eff d → Ev (fun k => plane_Weigh.j1 k l D (sumsL (TT l) l) (TT l) (allW l)) ((pick (TT l) (fun i => sumAt (TT l) (l.take (i + 1))) (eff d) (prodS (eff d) (allW l)) l 0 0 : Int), true) := by
          intro D hD he
          rw [← he]
          obtain ⟨m1, m2⟩ := prodS_is hD hal h1
          refine Ev.step (fun k => by simp only [plane_Weigh.j1]; rfl) (Ev.pos m1 ?_)
          rw [m2]
          exact pick_is (TT_lt l) l hl hw (flss_is hD (Nat.le_of_lt one_lt)) (fun s hs => flss_is (prodS_le _ _) hs) l.length 0 (by omega) 0
        have hge : fgeq d 0 = true ↔ (d ≤ INF ∨ d = NEG0) := by
          unfold fgeq
          rw [Bool.or_eq_true, beq_iff_eq, beq_iff_eq]
          exact geq0 hd
        by_cases h2 : fgeq d 0 = true
        · refine Ev.pos h2 ?_
          rcases hge.1 h2 with h3 | h3
          · exact go d h3 (by unfold eff; rw [if_pos h3])
          · subst h3
            have e0 : eff NEG0 = 0 := if_neg (by decide)
            rw [e0]
            have hm : fmulOk NEG0 (allW l) = true ∧ fmul NEG0 (allW l) = NEG0 := by
              unfold fmulOk fmul
              rw [show NEG0 = 9223372036854775808 from rfl, mul_neg0 hal]
              exact ⟨rfl, rfl⟩
            refine Ev.step (fun k => by simp only [plane_Weigh.j1]; rfl) (Ev.pos hm.1 ?_)
            rw [show fmul NEG0 (sumAt (TT l) l) = NEG0 from hm.2]
            have hp0 : prodS 0 (allW l) = 0 := by
              unfold prodS
              rw [if_pos (by decide), val_zero, Nat.zero_mul]
              exact near_zero _
            rw [hp0]
            have hl0 : ∀ s, s ≤ INF → flss NEG0 s = decide (0 < s) := by
              intro s hs
              have := flss_is (Nat.zero_le _) hs
              rw [← this]
              unfold flss
              rw [show NEG0 = 9223372036854775808 from rfl, order_neg0 hs]
            exact pick_is (TT_lt l) l hl hw (hl0 _ (Nat.le_of_lt one_lt)) hl0 l.length 0 (by omega) 0
        · refine Ev.neg h2 ?_
          refine go 0 (Nat.zero_le _) ?_
          unfold eff
          rw [if_neg (fun h => h2 (hge.2 (Or.inl h)))]
      · unfold weighF
        rw [if_neg h1]
        exact Ev.neg (by simp only [decide_eq_true_eq]; exact h1) (Ev.ret rfl)
    refine Ev.neg (by omega) (Ev.bind (sums_is one_lt l hl hw) ?_)
    rw [hsl, hlast, last_is' _ l hp]
    refine Ev.pos (by omega) (Ev.pos (by omega) (Ev.call (isInf_is (sumAt_le _ _)) ?_))
    by_cases h1 : sumAt ONE l = INF
    · refine Ev.pos (decide_eq_true h1) (Ev.bind (sums_is th_lt l hl hw) ?_)
      have : TT l = TH := by unfold TT; rw [if_pos h1]
      rw [this] at rest
      exact rest
    · have : TT l = ONE := by unfold TT; rw [if_neg h1]
      rw [this] at rest
      exact Ev.neg (by simp only [decide_eq_true_eq]; exact h1) rest
end Go.Proofs.Ytlknaikdlkobjaa.PP
