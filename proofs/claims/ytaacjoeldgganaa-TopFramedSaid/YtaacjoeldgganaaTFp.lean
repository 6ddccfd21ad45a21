/- The frames' plain law, the program's functions alone; rows that stand one behind the other, and where such bytes are cut. -/
import Derived.Test.YtaacjoeldgganaaSx11
import Derived.Test.YtaacjoeldgganaaSx12
import Derived.Test.YtaacjoeldgganaaSx9
import Derived.Test.YtaacjoeldgganaaTFa
namespace Go.Proofs.Ytaacjoeldgganaa.FP
open Go.RowKit Go.Proofs.Ytaacjoeldgganaa.S Go.Proofs.YtaacjoeldgganaaW.PrintWords Go.Proofs.YtaacjoeldgganaaW.PrintLast Go.Proofs.YtaacjoeldgganaaW.PrintMore

theorem Ev.pos {α : Type} {c : Prop} [Decidable c] {a b : Nat → Option α} {r : α} (hc : c) (h : Ev a r) : Ev (fun k => if c then a k else b k) r := Ev.congr (fun _ => if_pos hc) h
theorem Ev.neg {α : Type} {c : Prop} [Decidable c] {a b : Nat → Option α} {r : α} (hc : ¬ c) (h : Ev b r) : Ev (fun k => if c then a k else b k) r := Ev.congr (fun _ => if_neg hc) h
theorem Ev.put {α β : Type} {x : β} {f : Nat → β → Option α} {r : α} (h : Ev (fun k => f k x) r) : Ev (fun k => (some x).bind (f k)) r := h
theorem Ev.call {α β : Type} {g : Option β} {x : β} {f : Nat → β → Option α} {r : α} (hg : g = some x) (h : Ev (fun k => f k x) r) : Ev (fun k => g.bind (f k)) r := by rw [hg]; exact h
theorem B8_of {l : List Int} (h : ∀ x ∈ l, (Lit.int .u8 x).wf = true) : B8 l := by
  intro x hx
  have := h x hx
  simp [Lit.wf, IntKind.min, IntKind.max, IntKind.signed, IntKind.bits] at this
  omega
theorem Ev.const {α : Type} {x : Option α} {r : α} (h : Ev (fun _ => x) r) : x = some r := by
  obtain ⟨K, hK⟩ := h
  exact hK K (Nat.le_refl _)
theorem Ev.ret {α : Type} {a r : α} (h : a = r) : Ev (fun _ => some a) r := by rw [h]; exact Ev.now _
theorem Frame_f {l : List Int} (h : B8 l) : frame_Frame.f l = some (if (l.length : Int) > 65536 then ([], 6) else (frameBytes l, 0)) := by
  unfold frame_Frame.f
  rw [if_pos ((okB_iff l).2 h)]
  split <;> rfl
theorem Next_f {l : List Int} (h : B8 l) (a : Int) : frame_Next.f l a = some (nextOf l a) := by
  unfold frame_Next.f
  rw [if_pos ((okB_iff l).2 h)]
theorem get4_four (n : Int) (h0 : 0 ≤ n) (h1 : n < 4294967296) (r : List Int) : get4 (four n ++ r) = n := by
  simp only [get4, four, List.cons_append, List.nil_append, List.getD_cons_zero, List.getD_cons_succ]
  omega
theorem four_length (n : Int) : (four n).length = 4 := rfl
theorem frameBytes_length (l : List Int) : (frameBytes l).length = 8 + l.length := by simp [frameBytes, four_length]; omega
theorem frameBytes_B8 (l : List Int) (h : B8 l) : B8 (frameBytes l) := B8_append (B8_four _ (by omega)) (B8_append (B8_four _ (fextend_range _ _).1) h)
theorem nextOf_ok {l : List Int} {a : Int} (h : (nextOf l a).2.2 = 0) : 0 ≤ a ∧ a ≤ l.length ∧ 8 ≤ (l.drop a.toNat).length ∧ get4 (l.drop a.toNat) ≤ 65536 ∧ get4 (l.drop a.toNat) ≤ ((l.drop a.toNat).length : Int) - 8 ∧ nextOf l a = (((l.drop a.toNat).drop 8).take (get4 (l.drop a.toNat)).toNat, a + 8 + get4 (l.drop a.toNat), 0) := by
  unfold nextOf at h ⊢
  split at h
  · cases h
  rename_i h1
  split at h
  · cases h
  rename_i h2
  split at h
  · cases h
  rename_i h3
  split at h
  · cases h
  rename_i h4
  split at h
  · cases h
  rename_i h5
  rw [if_neg h1, if_neg h2, if_neg h3, if_neg h4, if_neg h5]
  exact ⟨by omega, by omega, by omega, by omega, by omega, rfl⟩
theorem nextOf_moves {l : List Int} {a : Int} (hB : B8 l) (h : (nextOf l a).2.2 = 0) : 0 ≤ a ∧ a + 8 ≤ (nextOf l a).2.1 ∧ (nextOf l a).2.1 ≤ l.length := by
  obtain ⟨h0, h1, h2, h3, h4, h5⟩ := nextOf_ok h
  have hr := get4_range (B8_drop hB a.toNat)
  rw [h5, List.length_drop] at *
  refine ⟨h0, ?_, ?_⟩ <;> dsimp only <;> omega
theorem nextOf_B8 {l : List Int} {a : Int} (hB : B8 l) : B8 (nextOf l a).1 := by
  by_cases h : (nextOf l a).2.2 = 0
  · obtain ⟨_, _, _, _, _, h5⟩ := nextOf_ok h
    rw [h5]
    exact B8_take (B8_drop (B8_drop hB _) 8) _
  · have : (nextOf l a).1 = [] := by
      unfold nextOf at h ⊢
      split
      · rfl
      rename_i h1
      rw [if_neg h1] at h
      split
      · rfl
      rename_i h2
      rw [if_neg h2] at h
      split
      · rfl
      rename_i h3
      rw [if_neg h3] at h
      split
      · rfl
      rename_i h4
      rw [if_neg h4] at h
      split
      · rfl
      rename_i h5
      rw [if_neg h5] at h
      exact absurd rfl h
    rw [this]
    intro x hx
    cases hx
theorem nextOf_frame (p b q : List Int) (hb : b.length ≤ 65536) : nextOf (p ++ (frameBytes b ++ q)) (p.length : Int) = (b, (p.length : Int) + 8 + (b.length : Int), 0) := by
  have hFl := frameBytes_length b
  have hr := fextend_range (fextend 0 (four b.length)) b
  have hd : (p ++ (frameBytes b ++ q)).drop ((p.length : Int)).toNat = frameBytes b ++ q := by rw [Int.toNat_natCast]; exact List.drop_left' rfl
  have hg : get4 (frameBytes b ++ q) = (b.length : Int) := by unfold frameBytes; rw [List.append_assoc]; exact get4_four _ (by omega) (by omega) _
  have ht4 : (frameBytes b ++ q).take 4 = four b.length := by unfold frameBytes; rw [List.append_assoc]; exact List.take_left' (four_length _)
  have hd4 : (frameBytes b ++ q).drop 4 = four (fextend (fextend 0 (four b.length)) b) ++ (b ++ q) := by unfold frameBytes; rw [List.append_assoc, List.drop_left' (four_length _), List.append_assoc]
  have hd8 : (frameBytes b ++ q).drop 8 = b ++ q := by rw [show 8 = 4 + 4 from rfl, ← List.drop_drop, hd4]; exact List.drop_left' (four_length _)
  unfold nextOf
  rw [if_neg (by rw [List.length_append]; omega), hd, if_neg (by rw [List.length_append]; omega), hg, if_neg (by omega), if_neg (by rw [List.length_append]; omega), Int.toNat_natCast, ht4, hd8, List.take_left' rfl, hd4, get4_four _ hr.1 hr.2, if_neg (fun h => h rfl)]
theorem nextOf_cut (p b : List Int) (hb : b.length ≤ 65536) (n : Nat) (hn : n < 8 + b.length) : nextOf (p ++ (frameBytes b).take n) (p.length : Int) = ([], 0, 3) := by
  have hFl := frameBytes_length b
  have hd : (p ++ (frameBytes b).take n).drop ((p.length : Int)).toNat = (frameBytes b).take n := by rw [Int.toNat_natCast]; exact List.drop_left' rfl
  have hl : ((frameBytes b).take n).length = n := by rw [List.length_take]; omega
  unfold nextOf
  rw [if_neg (by rw [List.length_append]; omega), hd]
  by_cases h8 : n < 8
  · rw [if_pos (by omega)]
  rw [if_neg (by omega)]
  have hg : get4 ((frameBytes b).take n) = (b.length : Int) := by
    rw [← get4_four (b.length : Int) (by omega) (by omega) (four (fextend (fextend 0 (four b.length)) b) ++ b)]
    change _ = get4 (frameBytes b)
    unfold get4
    simp only [List.getD_eq_getElem?_getD]
    rw [List.getElem?_take_of_lt (by omega), List.getElem?_take_of_lt (by omega), List.getElem?_take_of_lt (by omega), List.getElem?_take_of_lt (by omega)]
  rw [hg, if_neg (by omega), if_pos (by omega)]
def allOf : Nat → List Int → List (List Int) → Int → List (List Int) × Int
  | 0, _, out, a => (out, a)
  | d + 1, l, out, a => if (nextOf l a).2.2 = 0 then allOf d l (out ++ [(nextOf l a).1]) (nextOf l a).2.1 else (out, a)
theorem allOf_stop {l : List Int} {a : Int} (h : (nextOf l a).2.2 ≠ 0) (out : List (List Int)) : ∀ d, allOf d l out a = (out, a)
  | 0 => rfl
  | d + 1 => by simp only [allOf]; rw [if_neg h]
theorem All_loop (l : List Int) (hl : l.length ≤ 140737488351232) (hB : B8 l) : ∀ (d : Nat) (out : List (List Int)) (a : Int), 0 ≤ a → a ≤ l.length → (l.length : Int) - a < 8 * (d : Int) → (out.length : Int) * 8 + ((l.length : Int) - a) < 46912496118440 →
    Ev (fun k => frame_All.l0 k l out a) (allOf d l out a) := by
  intro d
  induction d with
  | zero => intro out a h0 h1 h2 h3; omega
  | succ d ih =>
    intro out a h0 h1 h2 h3
    by_cases he : (nextOf l a).2.2 = 0
    · obtain ⟨_, hm1, hm2⟩ := nextOf_moves hB he
      have i1 := ih (out ++ [(nextOf l a).1]) (nextOf l a).2.1 (by omega) hm2 (by omega) (by rw [List.length_append, List.length_singleton]; omega)
      have hd : allOf (d + 1) l out a = allOf d l (out ++ [(nextOf l a).1]) (nextOf l a).2.1 := by simp only [allOf]; rw [if_pos he]
      rw [hd]
      refine Ev.step (fun k => by simp only [frame_All.l0]; rfl) ?_
      exact Ev.call (Next_f hB a) (Ev.pos he (Ev.pos (by omega) i1))
    · have hd : allOf (d + 1) l out a = (out, a) := by simp only [allOf]; rw [if_neg he]
      rw [hd]
      refine Ev.step (fun k => by simp only [frame_All.l0]; rfl) ?_
      exact Ev.call (Next_f hB a) (Ev.neg he (Ev.now _))
theorem All_is (l : List Int) (hl : l.length < 46912496118440) (hB : B8 l) (d : Nat) (hd : l.length < 8 * d) : Ev (fun k => frame_All.f k l) (allOf d l [] 0) :=
  All_loop l (by omega) hB d [] 0 (by omega) (by omega) (by omega) (by rw [List.length_nil]; omega)
def cat : List (List Int) → List Int
  | [] => []
  | x :: l => frameBytes x ++ cat l
theorem cat_append (a b : List (List Int)) : cat (a ++ b) = cat a ++ cat b := by
  induction a with
  | nil => rfl
  | cons x a ih => simp only [List.cons_append, cat, ih, List.append_assoc]
theorem cat_one (x : List Int) : cat [x] = frameBytes x := by simp [cat]
theorem cat_B8 {l : List (List Int)} (h : ∀ x ∈ l, B8 x) : B8 (cat l) := by
  induction l with
  | nil => intro x hx; cases hx
  | cons x l ih => exact B8_append (frameBytes_B8 x (h x (by simp))) (ih (fun y hy => h y (by simp [hy])))
def wt (l : List (List Int)) : Nat := (l.map (fun x => x.length + 8)).sum
theorem cat_length (l : List (List Int)) : (cat l).length = wt l := by
  induction l with
  | nil => rfl
  | cons x l ih => simp only [cat, wt, List.length_append, frameBytes_length, List.map_cons, List.sum_cons] at *; omega
theorem wt_ge (l : List (List Int)) : 8 * l.length ≤ wt l := by
  induction l with
  | nil => simp [wt]
  | cons x l ih => simp only [wt, List.map_cons, List.sum_cons, List.length_cons] at *; omega
theorem allOf_cat (q : List Int) : ∀ (ws : List (List Int)) (p : List Int) (out : List (List Int)) (d : Nat), (∀ x ∈ ws, x.length ≤ 65536) → ws.length < d →
    (nextOf ((p ++ cat ws) ++ q) ((p ++ cat ws).length : Int)).2.2 ≠ 0 → allOf d ((p ++ cat ws) ++ q) out (p.length : Int) = (out ++ ws, ((p ++ cat ws).length : Int)) := by
  intro ws
  induction ws with
  | nil =>
    intro p out d _ _ hq
    simp only [cat, List.append_nil] at hq ⊢
    exact allOf_stop hq out d
  | cons x ws ih =>
    intro p out d hx hd hq
    obtain ⟨d, rfl⟩ : ∃ e, d = e + 1 := ⟨d - 1, by simp only [List.length_cons] at hd; omega⟩
    have hn := nextOf_frame p x (cat ws ++ q) (hx x (by simp))
    have e1 : p ++ (frameBytes x ++ (cat ws ++ q)) = (p ++ cat (x :: ws)) ++ q := by simp [cat]
    have e2 : p ++ cat (x :: ws) = (p ++ frameBytes x) ++ cat ws := by simp [cat]
    rw [e1] at hn
    have e3 : (p.length : Int) + 8 + (x.length : Int) = ((p ++ frameBytes x).length : Int) := by rw [List.length_append, frameBytes_length]; omega
    simp only [allOf]
    rw [hn, if_pos rfl]
    dsimp only
    rw [e3, e2]
    rw [e2] at hq
    rw [ih (p ++ frameBytes x) (out ++ [x]) d (fun y hy => hx y (by simp [hy])) (by simp only [List.length_cons] at hd; omega) hq]
    simp
theorem nextOf_end (p : List Int) : (nextOf p (p.length : Int)).2.2 ≠ 0 := by
  have h := nextOf_cut p [] (by simp) 0 (by simp)
  simp only [List.take_zero, List.append_nil] at h
  rw [h]
  decide
/-- how many rows' frames stand whole within so many bytes -/
def cnt : List (List Int) → Nat → Nat
  | [], _ => 0
  | x :: l, c => if 8 + x.length ≤ c then cnt l (c - (8 + x.length)) + 1 else 0
theorem cnt_le : ∀ (ws : List (List Int)) (c : Nat), cnt ws c ≤ ws.length
  | [], _ => Nat.le_refl _
  | x :: l, c => by
    simp only [cnt]
    split
    · have := cnt_le l (c - (8 + x.length)); simp only [List.length_cons]; omega
    · omega
/-- THE BYTES CUT at c: the whole frames, and a piece of the next -/
theorem cat_cut : ∀ (ws : List (List Int)) (c : Nat), c ≤ (cat ws).length → (∀ x ∈ ws, x.length ≤ 65536) →
    ∃ q, (cat ws).take c = cat (ws.take (cnt ws c)) ++ q ∧ ∀ p : List Int, (nextOf (p ++ q) (p.length : Int)).2.2 ≠ 0 := by
  intro ws
  induction ws with
  | nil => intro c _ _; exact ⟨[], by simp [cat, cnt], fun p => by rw [List.append_nil]; exact nextOf_end p⟩
  | cons x ws ih =>
    intro c hc hx
    have hf := frameBytes_length x
    by_cases h : 8 + x.length ≤ c
    · obtain ⟨q, h1, h2⟩ := ih (c - (8 + x.length)) (by simp only [cat, List.length_append] at hc; omega) (fun y hy => hx y (by simp [hy]))
      refine ⟨q, ?_, h2⟩
      simp only [cat, cnt, if_pos h, List.take_succ_cons]
      rw [List.take_append, List.take_of_length_le (by omega), hf, h1, List.append_assoc]
    · refine ⟨(frameBytes x).take c, ?_, fun p => ?_⟩
      · simp only [cat, cnt, if_neg h, List.take_zero, List.nil_append]
        rw [List.take_append_of_le_length (by omega)]
      · rw [nextOf_cut p x (hx x (by simp)) c (by omega)]; decide
theorem All_cut (ws : List (List Int)) (c : Nat) (hc : c ≤ (cat ws).length) (hx : ∀ x ∈ ws, x.length ≤ 65536) (hB : ∀ x ∈ ws, B8 x) (hl : (cat ws).length < 46912496118440) :
    Ev (fun k => frame_All.f k ((cat ws).take c)) (ws.take (cnt ws c), ((cat (ws.take (cnt ws c))).length : Int)) := by
  obtain ⟨q, h1, h2⟩ := cat_cut ws c hc hx
  have hBt : B8 ((cat ws).take c) := fun x hx => cat_B8 hB x (List.mem_of_mem_take hx)
  have hlt : ((cat ws).take c).length ≤ (cat ws).length := by rw [List.length_take]; omega
  have h := All_is ((cat ws).take c) (by omega) hBt ((cat ws).length + ws.length + 1) (by omega)
  have h3 := allOf_cat q (ws.take (cnt ws c)) [] [] ((cat ws).length + ws.length + 1) (fun x hh => hx x (List.mem_of_mem_take hh)) (by rw [List.length_take]; omega) (h2 _)
  simp only [List.nil_append, List.length_nil] at h3
  rw [← h1] at h3
  rw [← h3]
  exact h
/-- where the frames end -/
def endAt (ws : List (List Int)) (i : Nat) : Nat := (cat (ws.take (i + 1))).length
def ends (ws : List (List Int)) : List Int := (List.range ws.length).map fun i => ((endAt ws i : Nat) : Int)
theorem ends_length (ws : List (List Int)) : (ends ws).length = ws.length := by simp [ends]
theorem ends_getD (ws : List (List Int)) (i : Nat) (h : i < ws.length) : (ends ws).getD i 0 = ((endAt ws i : Nat) : Int) := by simp [ends, h]
theorem ends_append (ws : List (List Int)) (x : List Int) : ends (ws ++ [x]) = ends ws ++ [((cat (ws ++ [x])).length : Int)] := by
  unfold ends
  rw [List.length_append, List.length_singleton, List.range_succ, List.map_append, List.map_singleton]
  congr 1
  · apply List.map_congr_left
    intro i hi
    have := List.mem_range.1 hi
    unfold endAt
    rw [List.take_append_of_le_length (by omega)]
  · unfold endAt
    rw [List.take_of_length_le (by simp)]
theorem cat_take (x : List Int) (ws : List (List Int)) (n : Nat) : (cat ((x :: ws).take (n + 1))).length = 8 + x.length + (cat (ws.take n)).length := by
  simp only [List.take_succ_cons, cat, List.length_append, frameBytes_length]
theorem cnt_lt : ∀ (ws : List (List Int)) (c i : Nat), i < ws.length → (endAt ws i ≤ c ↔ i < cnt ws c) := by
  intro ws
  induction ws with
  | nil => intro c i h; simp at h
  | cons x ws ih =>
    intro c i h
    unfold endAt
    rw [cat_take]
    by_cases hh : 8 + x.length ≤ c
    · simp only [cnt, if_pos hh]
      cases i with
      | zero => simp only [List.take_zero, cat, List.length_nil]; omega
      | succ i =>
        have := ih (c - (8 + x.length)) i (by simpa using h)
        unfold endAt at this
        omega
    · simp only [cnt, if_neg hh]
      omega
end Go.Proofs.Ytaacjoeldgganaa.FP
