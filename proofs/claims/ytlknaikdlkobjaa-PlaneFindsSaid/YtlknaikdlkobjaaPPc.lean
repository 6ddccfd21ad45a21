/- What a small configuration is; that a copy is the same; what the reference's Find computes. -/
import Derived.Test.YtlknaikdlkobjaaPPb
import Derived.Test.YtlknaikdlkobjaaQx10
import Derived.Test.YtlknaikdlkobjaaQx11
import Derived.Test.YtlknaikdlkobjaaQx13
import Derived.Test.YtlknaikdlkobjaaQx14
import Derived.Test.YtlknaikdlkobjaaQx15
namespace Go.Proofs.Ytlknaikdlkobjaa.PP
open Go.RowKit Go.Proofs.Ytlknaikdlkobjaa.Q Go.Proofs.YtlknaikdlkobjaaW.PrintWords Go.Proofs.YtlknaikdlkobjaaW.PrintLast Go.Proofs.YtlknaikdlkobjaaW.PrintMore
theorem step64 {i n : Nat} (h : i < n) (hn : n ≤ 9223372036854775806) : wrap64 ((i : Int) + 1) = ((i + 1 : Nat) : Int) := by unfold wrap64; omega
theorem rd53_drop {l : List S53} {i : Nat} (h : i < l.length) : l.drop i = rd_T53 l (i : Int) :: l.drop (i + 1) := by
  rw [List.drop_eq_getElem_cons h]
  simp [rd_T53, List.getD_eq_getElem?_getD, List.getElem?_eq_getElem h]
/-! a small configuration -/
theorem short_loop (v : Int) (l : List S30) (ps : List S53) : ∀ (m : Nat) (n : Nat) (i : Nat), 202 ≤ m + n → n ≤ 100000 → i ≤ n → i ≤ ps.length →
    ∃ b, Ev (fun k => tollgatelaw10_short.l0 k (n : Int) (i : Int) v l ps) b ∧ (b = true → l.length ≤ 200 ∧ ps.length ≤ 200 ∧ ∀ p ∈ ps.drop i, p.f1.length ≤ 200) := by
  intro m
  induction m with
  | zero =>
    intro n i hm _ hi hl
    refine ⟨false, ?_, by simp⟩
    by_cases h1 : i < ps.length
    · exact Ev.step (fun k => by simp only [tollgatelaw10_short.l0]; rfl) (Ev.pos (by omega) (Ev.neg (by omega) (Ev.ret rfl)))
    · exact Ev.step (fun k => by simp only [tollgatelaw10_short.l0]; rfl) (Ev.neg (by omega) (Ev.neg (by omega) (Ev.ret rfl)))
  | succ m ih =>
    intro n i hm hn hi hl
    by_cases h1 : i < ps.length
    · by_cases h2 : n ≤ 200
      · generalize ht : (rd_T53 ps (i : Int)) = p
        have hw : ∃ n' : Nat, wrap64 ((n : Int) + (1 + mn ((p.f1.length : Nat) : Int) 1000)) = (n' : Int) ∧ n + 1 ≤ n' ∧ n' ≤ n + 1001 ∧ (n' ≤ 201 → p.f1.length ≤ 200) := by
          unfold mn wrap64
          by_cases h3 : (1000 : Int) < p.f1.length
          · rw [if_pos h3]; exact ⟨n + 1001, by omega, by omega, by omega, by omega⟩
          · rw [if_neg h3]; exact ⟨n + 1 + p.f1.length, by omega, by omega, by omega, by omega⟩
        obtain ⟨n', e, a1, a2, a3⟩ := hw
        obtain ⟨b, hb, hq⟩ := ih n' (i + 1) (by omega) (by omega) (by omega) (by omega)
        refine ⟨b, Ev.step (fun k => by simp only [tollgatelaw10_short.l0]; rfl) (Ev.pos (by omega) (Ev.pos (by omega) (Ev.pos (by omega) ?_))), ?_⟩
        · rw [ht, e, show wrap64 ((i : Int) + 1) = ((i + 1 : Nat) : Int) by unfold wrap64; omega]
          exact hb
        · intro hbt
          obtain ⟨q1, q2, q3⟩ := hq hbt
          refine ⟨q1, q2, ?_⟩
          rw [rd53_drop h1, ht]
          intro x hx
          rcases List.mem_cons.1 hx with rfl | hx
          · by_cases h4 : n' ≤ 201
            · exact a3 h4
            · exfalso
              have : b = false := by
                have hb2 : Ev (fun k => tollgatelaw10_short.l0 k (n' : Int) ((i + 1 : Nat) : Int) v l ps) false := by
                  by_cases h5 : i + 1 < ps.length
                  · exact Ev.step (fun k => by simp only [tollgatelaw10_short.l0]; rfl) (Ev.pos (by omega) (Ev.neg (by omega) (Ev.ret rfl)))
                  · exact Ev.step (fun k => by simp only [tollgatelaw10_short.l0]; rfl) (Ev.neg (by omega) (Ev.neg (by omega) (Ev.ret rfl)))
                obtain ⟨K1, h6⟩ := hb
                obtain ⟨K2, h7⟩ := hb2
                have e1 := h6 (K1 + K2) (by omega)
                have e2 := h7 (K1 + K2) (by omega)
                exact Option.some.inj (e1.symm.trans e2)
              rw [this] at hbt
              cases hbt
          · exact q3 x hx
      · refine ⟨false, ?_, by simp⟩
        exact Ev.step (fun k => by simp only [tollgatelaw10_short.l0]; rfl) (Ev.pos (by omega) (Ev.neg (by omega) (Ev.ret rfl)))
    · by_cases h2 : n ≤ 200
      · refine ⟨decide ((l.length : Int) ≤ 200), ?_, ?_⟩
        · exact Ev.step (fun k => by simp only [tollgatelaw10_short.l0]; rfl) (Ev.neg (by omega) (Ev.pos (by omega) (Ev.ret rfl)))
        · intro h
          have := of_decide_eq_true h
          refine ⟨by omega, by omega, ?_⟩
          rw [List.drop_eq_nil_of_le (by omega)]
          simp
      · refine ⟨false, ?_, by simp⟩
        exact Ev.step (fun k => by simp only [tollgatelaw10_short.l0]; rfl) (Ev.neg (by omega) (Ev.neg (by omega) (Ev.ret rfl)))
/-- Is a configuration small? What it says; and if so, that nothing of it is long. -/
theorem short_is (v : Int) (l : List S30) (ps : List S53) : ∃ b, Ev (fun k => tollgatelaw10_short.f k v l ps) b ∧ (b = true → l.length ≤ 200 ∧ ps.length ≤ 200 ∧ ∀ p ∈ ps, p.f1.length ≤ 200) := by
  obtain ⟨b, hb, hq⟩ := short_loop v l ps 202 0 0 (by omega) (by omega) (by omega) (by omega)
  exact ⟨b, by unfold tollgatelaw10_short.f; exact hb, by rw [List.drop_zero] at hq; exact hq⟩
/-! a copy -/
theorem Copy_loop (v : Int) (l : List S30) (ps : List S53) (hp : ps.length ≤ 200) (ht : ∀ p ∈ ps, p.f1.length ≤ 200) (v' : Int) (l' : List S30) : ∀ (d i : Nat), i + d = ps.length →
    Ev (fun k => tollgateref08_CopyConfig.l0 k (i : Int) v l ps v' l' (ps.take i)) (v', l', ps) := by
  intro d
  induction d with
  | zero =>
    intro i hi
    refine Ev.step (fun k => by simp only [tollgateref08_CopyConfig.l0]; rfl) (Ev.neg (by omega) (Ev.ret ?_))
    rw [List.take_of_length_le (by omega)]
  | succ d ih =>
    intro i hi
    have h1 : i < ps.length := by omega
    have hm : rd_T53 ps (i : Int) ∈ ps := List.mem_of_mem_drop (i := i) (by rw [rd53_drop h1]; exact List.mem_cons_self)
    have htk : ps.take (i + 1) = ps.take i ++ [rd_T53 ps (i : Int)] := by
      rw [List.take_add_one, List.getElem?_eq_getElem h1]
      simp [rd_T53, List.getD_eq_getElem?_getD, List.getElem?_eq_getElem h1]
    have hlen : (ps.take i).length ≤ 200 := by rw [List.length_take]; omega
    have := ht _ hm
    refine Ev.step (fun k => by simp only [tollgateref08_CopyConfig.l0]; rfl) (Ev.pos (by omega) (Ev.pos (by omega) (Ev.put (Ev.pos (by simp only [List.length_nil]; omega) (Ev.pos (by omega) ?_)))))
    rw [step64 h1 (by omega)]
    have := ih (i + 1) (by omega)
    rw [htk] at this
    exact this
theorem Copy_is (v : Int) (l : List S30) (ps : List S53) (hl : l.length ≤ 200) (hp : ps.length ≤ 200) (ht : ∀ p ∈ ps, p.f1.length ≤ 200) : Ev (fun k => tollgateref08_CopyConfig.f k v l ps) (v, l, ps) := by
  unfold tollgateref08_CopyConfig.f
  refine Ev.put (Ev.pos (by simp only [List.length_nil]; omega) ?_)
  exact Copy_loop v l ps hp ht v l ps.length 0 (by omega)
/-! two that are the same -/
theorem SameTargets_is (l : List S44) (hl : l.length ≤ 200) : Ev (fun k => tollgateref08_SameTargets.f k l l) true := by
  unfold tollgateref08_SameTargets.f
  refine Ev.pos rfl ?_
  have loop : ∀ (d i : Nat), i + d = l.length → Ev (fun k => tollgateref08_SameTargets.l0 k l l (i : Int)) true := by
    intro d
    induction d with
    | zero => intro i hi; exact Ev.step (fun k => by simp only [tollgateref08_SameTargets.l0]; rfl) (Ev.neg (by omega) (Ev.ret rfl))
    | succ d ih =>
      intro i hi
      refine Ev.step (fun k => by simp only [tollgateref08_SameTargets.l0]; rfl) (Ev.pos (by omega) (Ev.pos (by omega) (Ev.pos (by omega) ?_)))
      refine Ev.pos trivial ?_
      refine Ev.pos trivial ?_
      rw [step64 (show i < l.length by omega) (by omega)]
      exact ih (i + 1) (by omega)
  exact loop l.length 0 (by omega)
theorem Same_is (v : Int) (l : List S30) (ps : List S53) (hl : l.length ≤ 200) (hp : ps.length ≤ 200) (ht : ∀ p ∈ ps, p.f1.length ≤ 200) : Ev (fun k => tollgateref08_SameConfig.f k v l ps v l ps) true := by
  unfold tollgateref08_SameConfig.f
  have loop1 : ∀ (d i : Nat), i + d = l.length → Ev (fun k => tollgateref08_SameConfig.l1 k (i : Int) v l ps v l ps) true := by
    intro d
    induction d with
    | zero => intro i hi; exact Ev.step (fun k => by simp only [tollgateref08_SameConfig.l1]; rfl) (Ev.neg (by omega) (Ev.ret rfl))
    | succ d ih =>
      intro i hi
      refine Ev.step (fun k => by simp only [tollgateref08_SameConfig.l1]; rfl) (Ev.pos (by omega) (Ev.pos (by omega) (Ev.pos (by omega) (Ev.neg (by simp) ?_))))
      rw [step64 (show i < l.length by omega) (by omega)]
      exact ih (i + 1) (by omega)
  have loop0 : ∀ (d i : Nat), i + d = ps.length → Ev (fun k => tollgateref08_SameConfig.l0 k (i : Int) v l ps v l ps) true := by
    intro d
    induction d with
    | zero => intro i hi; exact Ev.step (fun k => by simp only [tollgateref08_SameConfig.l0]; rfl) (Ev.neg (by omega) (loop1 l.length 0 (by omega)))
    | succ d ih =>
      intro i hi
      have h1 : i < ps.length := by omega
      have hm : rd_T53 ps (i : Int) ∈ ps := List.mem_of_mem_drop (i := i) (by rw [rd53_drop h1]; exact List.mem_cons_self)
      refine Ev.step (fun k => by simp only [tollgateref08_SameConfig.l0]; rfl) (Ev.pos (by omega) (Ev.pos (by omega) (Ev.pos (by omega) ?_)))
      refine Ev.pos trivial ?_
      refine Ev.bind (SameTargets_is _ (ht _ hm)) (Ev.pos rfl ?_)
      rw [step64 h1 (by omega)]
      exact ih (i + 1) (by omega)
  refine Ev.pos rfl ?_
  refine Ev.pos rfl ?_
  exact Ev.step (fun k => by simp only [tollgateref08_SameConfig.j0]; rfl) (Ev.neg (by simp) (loop0 ps.length 0 (by omega)))
/-! what the fold finds -/
theorem fold_inv (h s : ByteArray) : ∀ (l : List S30) (a : Found),
    (a.2.2.2 = true → (l.foldl (findStep h s) a).2.2.2 = true ∧ a.2.1.size ≤ (l.foldl (findStep h s) a).2.1.size) ∧
    (∀ x ∈ l, may h s x = true → (l.foldl (findStep h s) a).2.2.2 = true ∧ x.f1.size ≤ (l.foldl (findStep h s) a).2.1.size) ∧
    (l.foldl (findStep h s) a = a ∨ ∃ r ∈ l, may h s r = true ∧ l.foldl (findStep h s) a = (r.f0, r.f1, r.f2, true))
  | [], a => ⟨fun h => ⟨h, Nat.le_refl _⟩, by simp, Or.inl rfl⟩
  | x :: l, a => by
    obtain ⟨i1, i2, i3⟩ := fold_inv h s l (findStep h s a x)
    have hs : (a.2.2.2 = true → (findStep h s a x).2.2.2 = true ∧ a.2.1.size ≤ (findStep h s a x).2.1.size) ∧ (may h s x = true → (findStep h s a x).2.2.2 = true ∧ x.f1.size ≤ (findStep h s a x).2.1.size) ∧ (findStep h s a x = a ∨ (may h s x = true ∧ findStep h s a x = (x.f0, x.f1, x.f2, true))) := by
      unfold findStep
      by_cases h1 : may h s x = true
      · rw [if_pos h1]
        by_cases h2 : a.2.2.2 = true
        · rw [if_pos h2]
          by_cases h3 : (x.f1.size : Int) > (a.2.1.size : Int)
          · rw [if_pos h3]
            exact ⟨fun _ => ⟨rfl, by show _ ≤ x.f1.size; omega⟩, fun _ => ⟨rfl, Nat.le_refl _⟩, Or.inr ⟨h1, rfl⟩⟩
          · rw [if_neg h3]
            exact ⟨fun h => ⟨h, Nat.le_refl _⟩, fun _ => ⟨h2, by omega⟩, Or.inl rfl⟩
        · rw [if_neg h2]
          exact ⟨fun h => absurd h h2, fun _ => ⟨rfl, Nat.le_refl _⟩, Or.inr ⟨h1, rfl⟩⟩
      · rw [if_neg h1]
        exact ⟨fun h => ⟨h, Nat.le_refl _⟩, fun h => absurd h h1, Or.inl rfl⟩
    obtain ⟨s1, s2, s3⟩ := hs
    rw [List.foldl_cons]
    refine ⟨fun ha => ?_, fun y hy hm => ?_, ?_⟩
    · obtain ⟨e1, e2⟩ := s1 ha
      obtain ⟨e3, e4⟩ := i1 e1
      exact ⟨e3, Nat.le_trans e2 e4⟩
    · rcases List.mem_cons.1 hy with rfl | hy
      · obtain ⟨e1, e2⟩ := s2 hm
        obtain ⟨e3, e4⟩ := i1 e1
        exact ⟨e3, Nat.le_trans e2 e4⟩
      · exact i2 y hy hm
    · rcases i3 with e | ⟨r, hr, hm, e⟩
      · rw [e]
        rcases s3 with e' | ⟨hm, e'⟩
        · exact Or.inl e'
        · exact Or.inr ⟨x, List.mem_cons_self, hm, e'⟩
      · exact Or.inr ⟨r, List.mem_cons_of_mem _ hr, hm, e⟩
theorem may_fits {h s : ByteArray} {r : S30} (hm : may h s r = true) : r.f0.toList = h.toList ∧ fitsB r.f1 s = true := by
  unfold may at hm
  rw [Bool.and_eq_true, beq_iff_eq] at hm
  exact hm
theorem fits_size {p s : ByteArray} (h : fitsB p s = true) : p.size ≤ s.size := by
  unfold fitsB at h
  split at h
  · assumption
  · cases h
theorem fold_small (h s : ByteArray) (n : Nat) : ∀ (l : List S30) (a : Found), (a.2.2.2 = true → a.2.1.size < n) → (∀ x ∈ l, may h s x = true → x.f1.size < n) → ((l.foldl (findStep h s) a).2.2.2 = true → (l.foldl (findStep h s) a).2.1.size < n) := by
  intro l a ha hl hf
  rcases (fold_inv h s l a).2.2 with e | ⟨r, hr, hm, e⟩
  · rw [e] at hf ⊢; exact ha hf
  · rw [e]; exact hl r hr hm
theorem fold_keep (h s : ByteArray) : ∀ (l : List S30) (a : Found), a.2.2.2 = true → (∀ x ∈ l, may h s x = true → x.f1.size ≤ a.2.1.size) → l.foldl (findStep h s) a = a
  | [], _, _, _ => rfl
  | x :: l, a, ha, hl => by
    have e : findStep h s a x = a := by
      unfold findStep
      by_cases h1 : may h s x = true
      · rw [if_pos h1, if_pos ha, if_neg (by have := hl x List.mem_cons_self h1; omega)]
      · rw [if_neg h1]
    rw [List.foldl_cons, e]
    exact fold_keep h s l a ha (fun y hy => hl y (List.mem_cons_of_mem _ hy))
theorem findF_first {h s : ByteArray} {l1 l2 : List S30} {r : S30} (hm : may h s r = true) (h1 : ∀ x ∈ l1, may h s x = true → x.f1.size < r.f1.size) (h2 : ∀ x ∈ l2, may h s x = true → x.f1.size ≤ r.f1.size) : findF h s (l1 ++ r :: l2) = (r.f0, r.f1, r.f2, true) := by
  unfold findF
  rw [List.foldl_append, List.foldl_cons]
  have e : findStep h s (l1.foldl (findStep h s) nofound) r = (r.f0, r.f1, r.f2, true) := by
    have := fold_small h s r.f1.size l1 nofound (fun h => by cases h) h1
    generalize l1.foldl (findStep h s) nofound = a at this
    unfold findStep
    rw [if_pos hm]
    by_cases h3 : a.2.2.2 = true
    · rw [if_pos h3, if_pos (by have := this h3; omega)]
    · rw [if_neg h3]
  rw [e]
  exact fold_keep h s l2 _ rfl h2
theorem findF_none {h s : ByteArray} {l : List S30} (hn : ∀ x ∈ l, may h s x = false) : findF h s l = nofound := by
  rcases (fold_inv h s l nofound).2.2 with e | ⟨r, hr, hm, e⟩
  · exact e
  · rw [hn r hr] at hm; cases hm
/-! the reference's search: by lengths downward, in each by order -/
theorem rFind_at (h s : ByteArray) (hs : s.size ≤ 4611686018427387904) (v : Int) (l : List S30) (ps : List S53) (hl : l.length ≤ 200) (n : Nat) (R : Found)
    (hall : ∀ x ∈ l, may h s x = true → x.f1.size ≤ n) (next : (∀ x ∈ l, may h s x = true → x.f1.size < n) → Ev (fun k => tollgateref10_Find.l0 k h s (wrap64 ((n : Int) - 1)) v l ps) R) (hR : R = findF h s l) :
    ∀ (d i : Nat), i + d = l.length → (∀ x ∈ l.take i, may h s x = true → x.f1.size < n) → Ev (fun k => tollgateref10_Find.l1 k h s (n : Int) (i : Int) v l ps) R := by
  intro d
  induction d with
  | zero =>
    intro i hi hb
    rw [List.take_of_length_le (by omega)] at hb
    exact Ev.step (fun k => by simp only [tollgateref10_Find.l1]; rfl) (Ev.neg (by omega) (next hb))
  | succ d ih =>
    intro i hi hb
    have h1 : i < l.length := by omega
    have hdr := rd_drop h1
    have htk : l.take (i + 1) = l.take i ++ [rd_T30 l (i : Int)] := by
      rw [List.take_add_one, List.getElem?_eq_getElem h1]
      simp [rd_T30, List.getD_eq_getElem?_getD, List.getElem?_eq_getElem h1]
    generalize hr : rd_T30 l (i : Int) = r at hdr htk
    have hmem : r ∈ l := List.mem_of_mem_drop (i := i) (by rw [hdr]; exact List.mem_cons_self)
    have go : (may h s r = true → r.f1.size < n) → Ev (fun k => tollgateref10_Find.l1 k h s (n : Int) (wrap64 ((i : Int) + 1)) v l ps) R := by
      intro hlt
      rw [step64 h1 (by omega)]
      refine ih (i + 1) (by omega) ?_
      rw [htk]
      intro x hx
      rcases List.mem_append.1 hx with hx | hx
      · exact hb x hx
      · rw [List.mem_singleton] at hx
        subst hx
        exact hlt
    refine Ev.step (fun k => by simp only [tollgateref10_Find.l1]; rw [hr]) (Ev.pos (by omega) (Ev.pos (by omega) ?_))
    by_cases h2 : r.f0.toList = h.toList
    · refine Ev.pos h2 ?_
      by_cases h3 : r.f1.size = n
      · refine Ev.pos (by omega) (Ev.bind (rFits_is r.f1 s hs) ?_)
        by_cases h4 : fitsB r.f1 s = true
        · rw [h4]
          refine Ev.pos rfl (Ev.ret ?_)
          have hm : may h s r = true := by unfold may; rw [h2, h4]; simp
          rw [hR]
          conv => rhs; rw [← List.take_append_drop i l, hdr]
          refine (findF_first hm (fun x hx hx' => by have := hb x hx hx'; omega) (fun x hx hx' => ?_)).symm
          have := hall x (List.mem_of_mem_drop (i := i) (by rw [hdr]; exact List.mem_cons_of_mem _ hx)) hx'
          omega
        · refine Ev.neg h4 (go (fun hm => absurd (may_fits hm).2 h4))
      · refine Ev.neg (by omega) (go (fun hm => by have := hall r hmem hm; omega))
    · exact Ev.neg h2 (go (fun hm => absurd (may_fits hm).1 h2))
theorem rFind_is (v : Int) (l : List S30) (ps : List S53) (hl : l.length ≤ 200) (h s : ByteArray) (hs : s.size ≤ 4611686018427387904) : Ev (fun k => tollgateref10_Find.f k v l ps h s) (findF h s l) := by
  unfold tollgateref10_Find.f
  have down : ∀ (n : Nat), n ≤ s.size → (∀ x ∈ l, may h s x = true → x.f1.size ≤ n) → Ev (fun k => tollgateref10_Find.l0 k h s (n : Int) v l ps) (findF h s l) := by
    intro n
    induction n with
    | zero =>
      intro hn hall
      refine Ev.step (fun k => by simp only [tollgateref10_Find.l0]; rfl) (Ev.pos (by omega) ?_)
      refine rFind_at h s hs v l ps hl 0 _ hall (fun hb => ?_) rfl l.length 0 (by omega) (by simp)
      have : findF h s l = nofound := findF_none (fun x hx => by
        cases hm : may h s x with
        | false => rfl
        | true => exact absurd (hb x hx hm) (Nat.not_lt_zero _))
      rw [this]
      exact Ev.step (fun k => by simp only [tollgateref10_Find.l0]; rfl) (Ev.neg (by unfold wrap64; omega) (Ev.ret rfl))
    | succ n ih =>
      intro hn hall
      refine Ev.step (fun k => by simp only [tollgateref10_Find.l0]; rfl) (Ev.pos (by omega) ?_)
      refine rFind_at h s hs v l ps hl (n + 1) _ hall (fun hb => ?_) rfl l.length 0 (by omega) (by simp)
      rw [show wrap64 (((n + 1 : Nat) : Int) - 1) = (n : Int) by unfold wrap64; omega]
      exact ih (by omega) (fun x hx hm => by have := hb x hx hm; omega)
  exact down s.size (Nat.le_refl _) (fun x _ hm => fits_size (may_fits hm).2)
end Go.Proofs.Ytlknaikdlkobjaa.PP
