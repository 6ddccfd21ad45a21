/- Walks and plain facts, joined out of several texts: what the row of PlaneSame leads to. -/
import Derived.Test.YtabkdmfnafeaeaaDoorPkPlaneSame3
import Derived.Lib.LazyBuf
import Derived.Test.YtabkdmfnafeaeaaDoorRows
import Derived.SizedLaws
import Derived.ChangeSlices
import Derived.Deep.Slices
import Derived.ChangeSame
import Derived.DataReads
import Derived.OpenShut
import Derived.Laws.Cover2
import Derived.Lib.CountLaws
import Derived.Lib.IndexLaws
import Derived.Lib.Split
import Derived.Laws.FloatBits
section
/-! slices.Clone of routes, pools (as they lie) and targets. -/
namespace Go.Proofs.YtabkdmfnafeaeaaDoor.S
open Go.RowKit Go.Proofs.YtabkdmfnafeaeaaDoorW.PrintWords Go.Proofs.YtabkdmfnafeaeaaDoorW.PrintLast Go.Proofs.YtabkdmfnafeaeaaDoorW.PrintMore
attribute [local go_sem] run_eql_slice_nil
set_option linter.unusedVariables false
set_option linter.unusedSimpArgs false
theorem info67_ : (Tryd.prog.info? 67).map (fun i => (i.zero, i.size, i.bytes)) = some (some (.agg #[(.string ⟨#[]⟩), (.slice none 0 0)]), 2, 40) := by kernel_rfl
/-- A pool as it lies: the slice of its targets is not followed. -/
def kraw : Kd (ByteArray × (Option Addr × Nat × Nat)) := Kd.pair Kd.string (Kd.scalar (fun x : Option Addr × Nat × Nat => Value.slice x.1 x.2.1 x.2.2) (fun _ => rfl))
set_option maxHeartbeats 2000000 in
set_option maxRecDepth 100000 in
theorem clone_Route (A : Option Addr) (c : Nat) (l : List S93) (w : World) (hr : Kd.C k93 w A l.length l) (hc : l.length ≤ c) (hl : l.length ≤ 2000) :
    Calls Tryd.prog 87 #[.slice A l.length c] w fun e w' => ∃ v, e = .returned v ∧ Kd.R k93 93 w' w.heap.size (fun _ => True) v l ∧ Below w.heap.size w w' := by
  have HB := Aside0.mk (Below.refl w.heap.size w)
  have HR := Aside0.mk hr
  have hu := Tryd.underlying52
  rcases A with _ | ad
  · have h0 : l = [] := by
      rcases l with _ | ⟨x, l⟩
      · rfl
      · obtain ⟨ad, h, _⟩ := hr.2.2 (by simp)
        cases h
    subst h0
    clear hr HR
    go_enter Tryd.func87, Tryd.ntmps87
    go_wp2
    go_ret
    exact ⟨_, rfl, Kd.R_nil _ _ _ _ _, HB.out⟩
  · clear hr
    go_enter Tryd.func87, Tryd.ntmps87
    go_wp2_with (first | ((with_reducible refine gate_dst (N := 5) rfl ?_); refine Kd.R_lit k93 w.heap.size 93 ?hg (N := 5) ?hd (xs := ([] : List S93)) (inner := []) (ok := fun _ => True) (okp := fun _ => True) ?hr ?hp (fun _ hk => hk) trivial HB.out (below_size HB.out) (by simp) ?_; (case hd => rfl); (case hg => rfl); (case hr => first | (go_simp; done) | (go_simp; rfl)); (case hp => exact (Reps.none _ _)); intro v1 w1 ho hb hg_ hnew_; have HO := Aside0.mk ho; have n0_ := Aside0.mk hb; clear HB; have HB := n0_; clear ho hb hg_ hnew_ n0_) | ((with_reducible refine gate_dst (N := 7) rfl ?_); refine Kd.R_append_rows k93 (w0 := w) w.heap.size rfl (.tmp 5) (.tmp 6) 52 93 (.agg #[(.string ⟨#[]⟩), (.string ⟨#[]⟩), (.string ⟨#[]⟩)]) 48 rfl Tryd.underlying52 info93 rfl (by decide) (by omega) _ _ l _ _ _ (fun _ => True) (fun _ => False) rfl rfl HO.out (Kd.C_below HR.out HB.out) (fun _ _ h => h) (fun _ h => h.elim) (fun _ _ => trivial) HB.out (below_size HB.out) ?aL ?_; (case aL => simp only [List.length_nil]; omega); intro v2 w2 ho hb hg hat; have HO2 := Aside0.mk ho; have HB2 := Aside0.mk hb; clear ho hb hg hat HB HO; have HB := HB2; clear HB2))
    go_ret
    exact ⟨_, rfl, HO2.out, HB.out⟩
set_option maxHeartbeats 2000000 in
set_option maxRecDepth 100000 in
theorem clone_Target (A : Option Addr) (c : Nat) (l : List S69) (w : World) (hr : Kd.C k69 w A l.length l) (hc : l.length ≤ c) (hl : l.length ≤ 2000) :
    Calls Tryd.prog 89 #[.slice A l.length c] w fun e w' => ∃ v, e = .returned v ∧ Kd.R k69 69 w' w.heap.size (fun _ => True) v l ∧ Below w.heap.size w w' := by
  have HB := Aside0.mk (Below.refl w.heap.size w)
  have HR := Aside0.mk hr
  have hu := Tryd.underlying65
  rcases A with _ | ad
  · have h0 : l = [] := by
      rcases l with _ | ⟨x, l⟩
      · rfl
      · obtain ⟨ad, h, _⟩ := hr.2.2 (by simp)
        cases h
    subst h0
    clear hr HR
    go_enter Tryd.func89, Tryd.ntmps89
    go_wp2
    go_ret
    exact ⟨_, rfl, Kd.R_nil _ _ _ _ _, HB.out⟩
  · clear hr
    go_enter Tryd.func89, Tryd.ntmps89
    go_wp2_with (first | ((with_reducible refine gate_dst (N := 5) rfl ?_); refine Kd.R_lit k69 w.heap.size 69 ?hg (N := 5) ?hd (xs := ([] : List S69)) (inner := []) (ok := fun _ => True) (okp := fun _ => True) ?hr ?hp (fun _ hk => hk) trivial HB.out (below_size HB.out) (by simp) ?_; (case hd => rfl); (case hg => rfl); (case hr => first | (go_simp; done) | (go_simp; rfl)); (case hp => exact (Reps.none _ _)); intro v1 w1 ho hb hg_ hnew_; have HO := Aside0.mk ho; have n0_ := Aside0.mk hb; clear HB; have HB := n0_; clear ho hb hg_ hnew_ n0_) | ((with_reducible refine gate_dst (N := 7) rfl ?_); refine Kd.R_append_rows k69 (w0 := w) w.heap.size rfl (.tmp 5) (.tmp 6) 65 69 (.agg #[(.string ⟨#[]⟩), (.float .f64 0)]) 24 rfl Tryd.underlying65 info69 rfl (by decide) (by omega) _ _ l _ _ _ (fun _ => True) (fun _ => False) rfl rfl HO.out (Kd.C_below HR.out HB.out) (fun _ _ h => h) (fun _ h => h.elim) (fun _ _ => trivial) HB.out (below_size HB.out) ?aL ?_; (case aL => simp only [List.length_nil]; omega); intro v2 w2 ho hb hg hat; have HO2 := Aside0.mk ho; have HB2 := Aside0.mk hb; clear ho hb hg hat HB HO; have HB := HB2; clear HB2))
    go_ret
    exact ⟨_, rfl, HO2.out, HB.out⟩
set_option maxHeartbeats 2000000 in
set_option maxRecDepth 100000 in
theorem clone_Pool (A : Option Addr) (c : Nat) (l : List (ByteArray × (Option Addr × Nat × Nat))) (w : World) (hr : Kd.C kraw w A l.length l) (hc : l.length ≤ c) (hl : l.length ≤ 2000) :
    Calls Tryd.prog 88 #[.slice A l.length c] w fun e w' => ∃ v, e = .returned v ∧ Kd.R kraw 67 w' w.heap.size (fun _ => True) v l ∧ Below w.heap.size w w' := by
  have HB := Aside0.mk (Below.refl w.heap.size w)
  have HR := Aside0.mk hr
  have hu := Tryd.underlying53
  rcases A with _ | ad
  · have h0 : l = [] := by
      rcases l with _ | ⟨x, l⟩
      · rfl
      · obtain ⟨ad, h, _⟩ := hr.2.2 (by simp)
        cases h
    subst h0
    clear hr HR
    go_enter Tryd.func88, Tryd.ntmps88
    go_wp2
    go_ret
    exact ⟨_, rfl, Kd.R_nil _ _ _ _ _, HB.out⟩
  · clear hr
    go_enter Tryd.func88, Tryd.ntmps88
    go_wp2_with (first | ((with_reducible refine gate_dst (N := 5) rfl ?_); refine Kd.R_lit kraw w.heap.size 67 ?hg (N := 5) ?hd (xs := ([] : List (ByteArray × (Option Addr × Nat × Nat)))) (inner := []) (ok := fun _ => True) (okp := fun _ => True) ?hr ?hp (fun _ hk => hk) trivial HB.out (below_size HB.out) (by simp) ?_; (case hd => rfl); (case hg => rfl); (case hr => first | (go_simp; done) | (go_simp; rfl)); (case hp => exact (Reps.none _ _)); intro v1 w1 ho hb hg_ hnew_; have HO := Aside0.mk ho; have n0_ := Aside0.mk hb; clear HB; have HB := n0_; clear ho hb hg_ hnew_ n0_) | ((with_reducible refine gate_dst (N := 7) rfl ?_); refine Kd.R_append_rows kraw (w0 := w) w.heap.size rfl (.tmp 5) (.tmp 6) 53 67 (.agg #[(.string ⟨#[]⟩), (.slice none 0 0)]) 40 rfl Tryd.underlying53 info67_ rfl (by decide) (by omega) _ _ l _ _ _ (fun _ => True) (fun _ => False) rfl rfl HO.out (Kd.C_below HR.out HB.out) (fun _ _ h => h) (fun _ h => h.elim) (fun _ _ => trivial) HB.out (below_size HB.out) ?aL ?_; (case aL => simp only [List.length_nil]; omega); intro v2 w2 ho hb hg hat; have HO2 := Aside0.mk ho; have HB2 := Aside0.mk hb; clear ho hb hg hat HB HO; have HB := HB2; clear HB2))
    go_ret
    exact ⟨_, rfl, HO2.out, HB.out⟩
end Go.Proofs.YtabkdmfnafeaeaaDoor.S
end
section
/-! A plane at a block, and what of Plane's methods copies nothing. -/
namespace Go.Proofs.YtabkdmfnafeaeaaDoor.S
open Go.RowKit Go.Proofs.YtabkdmfnafeaeaaDoorW.PrintWords Go.Proofs.YtabkdmfnafeaeaaDoorW.PrintLast Go.Proofs.YtabkdmfnafeaeaaDoorW.PrintMore
set_option linter.unusedVariables false
set_option linter.unusedSimpArgs false
/-- At block g lies a plane with this configuration. -/
def PlaneAt (W : World) (g : Nat) (f0 : Int) (f1 : List S93) (f2 : List S67) : Prop :=
  ∃ A1 c1 A2 c2, W.heap[g]? = some (.cells #[.int .i64 f0, .slice A1 f1.length c1, .slice A2 f2.length c2] 97 (0, 0)) ∧ Kd.C k93 W A1 f1.length f1 ∧ f1.length ≤ c1 ∧ Kd.C k67 W A2 f2.length f2 ∧ f2.length ≤ c2
theorem PlaneAt.below {W W1 : World} {g : Nat} {f0 : Int} {f1 : List S93} {f2 : List S67} (h : PlaneAt W g f0 f1 f2) (hb : Below W.heap.size W W1) : PlaneAt W1 g f0 f1 f2 := by
  obtain ⟨A1, c1, A2, c2, h0, h1, h2, h3, h4⟩ := h
  exact ⟨A1, c1, A2, c2, blk_below h0 hb, Kd.C_below h1 hb, h2, Kd.C_below h3 hb, h4⟩
set_option maxHeartbeats 2000000 in
theorem new_ok (w : World) : Calls Tryd.prog 28 #[] w fun e w' => ∃ g, e = .returned (.pointer (some ⟨g, 0, none⟩)) ∧ w.heap.size ≤ g ∧ PlaneAt w' g 0 [] [] ∧ Below w.heap.size w w' :=
  (plane_New.calls 0 [] [] w w (Below.refl _ _) rfl).mono fun e w' h => by
    obtain ⟨g, h1, ⟨A1, c1, A2, c2, hb, hg, hr1, hr2⟩, h3, h4⟩ := h
    exact ⟨g, h1, hg, ⟨A1, c1, A2, c2, hb, Kd.C_below hr1 h3, Nat.zero_le _, Kd.C_below hr2 h3, Nat.zero_le _⟩, h3⟩
set_option maxHeartbeats 2000000 in
set_option maxRecDepth 100000 in
/-- A configuration that is not newer is not taken. -/
theorem apply_stale {g : Nat} {f0 : Int} {f1 : List S93} {f2 : List S67} {w : World} (h : PlaneAt w g f0 f1 f2) (a : Int) (v1 v2 : Value) (hv1 : v1.oneCell' = true) (hv2 : v2.oneCell' = true) (ha : a ≤ f0) :
    Calls Tryd.prog 29 #[.pointer (some ⟨g, 0, none⟩), .agg #[.int .i64 a, v1, v2]] w fun e w' => e = .returned (.int .i64 12) ∧ Below w.heap.size w w' := by
  obtain ⟨A1, c1, A2, c2, h0, h1, h2, h3, h4⟩ := h
  have HB := Aside0.mk (Below.refl w.heap.size w)
  have H0 := Aside0.mk h0
  have hu97 := Tryd.underlying97
  have hu55 := Tryd.underlying55
  clear h0 h1 h3
  go_enter Tryd.func29, Tryd.ntmps29
  go_wp2_with (first | ((with_reducible refine gate_dst (N := 3) rfl ?_); refine box_event ?hg (N := 3) ?hd (cs := #[.int .i64 a, v1, v2]) (t := 55) ?hr ?_; (case hd => rfl); (case hg => rfl); (case hr => first | (go_simp; done) | (go_simp; rfl)); intro gb hg w1 hbox hb; have n0_ := Aside0.mk (below_step HB.out hb); have q0 := cellS97_0 (blk_below H0.out hb); have c0 : w1.cell? ⟨gb, 0, none⟩ = some (.int .i64 a) := (blk_cell hbox 0).trans rfl; clear HB; have HB := n0_; clear hb hbox hg n0_))
  go_still (by rfl)
  go_wp2
  go_ret
  exact ⟨rfl, below_drew1 HB.out⟩
end Go.Proofs.YtabkdmfnafeaeaaDoor.S
end
section
/-! Pools as they lie. -/
namespace Go.Proofs.YtabkdmfnafeaeaaDoor.S
open Go.RowKit Go.Proofs.YtabkdmfnafeaeaaDoorW.PrintWords Go.Proofs.YtabkdmfnafeaeaaDoorW.PrintLast Go.Proofs.YtabkdmfnafeaeaaDoorW.PrintMore
set_option linter.unusedVariables false
set_option linter.unusedSimpArgs false
/-- What lies of a pool: its name, and a slice in which its targets stand. -/
def RawOf (w : World) (x : S67) (y : ByteArray × (Option Addr × Nat × Nat)) : Prop :=
  y.1 = x.f0 ∧ y.2.2.1 = x.f1.length ∧ x.f1.length ≤ y.2.2.2 ∧ Kd.C k69 w y.2.1 x.f1.length x.f1
theorem RawOf.below {w w1 : World} {x : S67} {y : ByteArray × (Option Addr × Nat × Nat)} (h : RawOf w x y) (hb : Below w.heap.size w w1) : RawOf w1 x y := ⟨h.1, h.2.1, h.2.2.1, Kd.C_below h.2.2.2 hb⟩
theorem raw_one {w : World} {x : S67} {c : List Value} (h : k67.K w x c) : ∃ y, kraw.K w y c ∧ RawOf w x y := by
  obtain ⟨c1, c2, rfl, rfl, A, cap, rfl, hl, hr⟩ := h
  exact ⟨(x.f0, (A, x.f1.length, cap)), ⟨_, _, rfl, rfl, rfl⟩, rfl, rfl, hl, hr⟩
theorem raw_back {w : World} {x : S67} {y : ByteArray × (Option Addr × Nat × Nat)} {c : List Value} (h : kraw.K w y c) (hr : RawOf w x y) : k67.K w x c := by
  obtain ⟨c1, c2, rfl, rfl, rfl⟩ := h
  obtain ⟨h1, h2, h3, h4⟩ := hr
  refine ⟨_, _, rfl, ?_, y.2.1, y.2.2.2, ?_, h3, h4⟩
  · rw [h1]; rfl
  · show [Value.slice y.2.1 y.2.2.1 y.2.2.2] = [Value.slice y.2.1 x.f1.length y.2.2.2]
    rw [h2]
theorem raw_of {w : World} {A : Option Addr} {l : List S67} (h : Kd.C k67 w A l.length l) :
    ∃ rl : List (ByteArray × (Option Addr × Nat × Nat)), rl.length = l.length ∧ Kd.C kraw w A rl.length rl ∧ ∀ (j : Nat) (x : S67) (y : ByteArray × (Option Addr × Nat × Nat)), l[j]? = some x → rl[j]? = some y → RawOf w x y := by
  obtain ⟨hl, hm, hr⟩ := h
  rcases Nat.eq_zero_or_pos l.length with h0 | h0
  · have : l = [] := List.length_eq_zero_iff.1 h0
    subst this
    exact ⟨[], rfl, ⟨rfl, by simp, fun h => absurd h (Nat.lt_irrefl 0)⟩, fun j x y hx _ => by simp at hx⟩
  · obtain ⟨ad, hA, hc⟩ := hr h0
    have H : ∀ i : Fin l.length, ∃ y, ∃ c : List Value, c.length = 2 ∧ kraw.K w y c ∧ RawOf w l[i] y ∧ ∀ k u, c[k]? = some u → w.cell? (ad.add (i.1 * 2 + k)) = some u := by
      intro i
      obtain ⟨c, h1, h2, h3⟩ := hc i.1 l[i] (List.getElem?_eq_getElem i.2)
      obtain ⟨y, h4, h5⟩ := raw_one h2
      exact ⟨y, c, h1, h4, h5, h3⟩
    obtain ⟨f, hf⟩ := Classical.axiomOfChoice H
    refine ⟨List.ofFn f, List.length_ofFn, ⟨rfl, by rw [List.length_ofFn]; exact hm, fun _ => ⟨ad, hA, fun j p hp => ?_⟩⟩, fun j x y hx hy => ?_⟩
    · have hj : j < (List.ofFn f).length := (List.getElem?_eq_some_iff.1 hp).1
      have hj2 : j < l.length := by rwa [List.length_ofFn] at hj
      rw [List.getElem?_eq_getElem hj, List.getElem_ofFn] at hp
      obtain rfl := Option.some.inj hp
      obtain ⟨c, h1, h2, h3, h4⟩ := hf ⟨j, hj2⟩
      exact ⟨c, h1, h2, h4⟩
    · have hj : j < (List.ofFn f).length := (List.getElem?_eq_some_iff.1 hy).1
      have hj2 : j < l.length := by rwa [List.length_ofFn] at hj
      rw [List.getElem?_eq_getElem hj, List.getElem_ofFn] at hy
      rw [List.getElem?_eq_getElem hj2] at hx
      obtain rfl := Option.some.inj hy
      obtain rfl := Option.some.inj hx
      obtain ⟨c, h1, h2, h3, h4⟩ := hf ⟨j, hj2⟩
      exact h3
/-- And back: a row of pools as they lie, each with its targets, is the row of the pools. -/
theorem raw_row {w : World} {A : Option Addr} {l : List S67} {rl : List (ByteArray × (Option Addr × Nat × Nat))} (hl : rl.length = l.length) (h : Kd.C kraw w A rl.length rl) (hR : ∀ (j : Nat) (x : S67) (y : ByteArray × (Option Addr × Nat × Nat)), l[j]? = some x → rl[j]? = some y → RawOf w x y) : Kd.C k67 w A l.length l := by
  obtain ⟨h1, h2, h3⟩ := h
  refine ⟨rfl, by omega, fun h0 => ?_⟩
  obtain ⟨ad, hA, hc⟩ := h3 (by omega)
  refine ⟨ad, hA, fun j x hx => ?_⟩
  have hj : j < rl.length := by have := (List.getElem?_eq_some_iff.1 hx).1; omega
  obtain ⟨c, g1, g2, g3⟩ := hc j rl[j] (List.getElem?_eq_getElem hj)
  exact ⟨c, g1, raw_back g2 (hR j x _ hx (List.getElem?_eq_getElem hj)), g3⟩
/-- A block in which pools lie. -/
def RawBlk (w : World) (g : Nat) (rl : List (ByteArray × (Option Addr × Nat × Nat))) : Prop :=
  ∃ cur : Array Value, w.heap[g]? = some (.cells cur 67 (0, 0)) ∧ ∀ (j : Nat) (y : ByteArray × (Option Addr × Nat × Nat)), rl[j]? = some y → cur[j * 2]? = some (.string y.1) ∧ cur[j * 2 + 1]? = some (.slice y.2.1 y.2.2.1 y.2.2.2)
theorem rawblk_of {w : World} {base : Nat} {v : Value} {rl : List (ByteArray × (Option Addr × Nat × Nat))} (h : Kd.R kraw 67 w base (fun _ => True) v rl) : rl = [] ∨ ∃ g cap, v = .slice (some ⟨g, 0, none⟩) rl.length cap ∧ base ≤ g ∧ RawBlk w g rl := by
  obtain ⟨_, inner, ⟨hlen, ho⟩, hrep⟩ := h
  rcases ho with ⟨rfl, h0⟩ | ⟨g, cap, cur, rfl, hg, hb, hn, hm, hs, ht⟩
  · exact .inl (List.length_eq_zero_iff.1 h0)
  · refine .inr ⟨g, cap, rfl, hg, cur, hb, fun j y hj => ?_⟩
    have hjl : j < rl.length := (List.getElem?_eq_some_iff.1 hj).1
    obtain ⟨c0, c1, hc, h1, h2⟩ := hrep.2 j y hj
    change (inner.drop (j * 2)).take 2 = c0 ++ c1 at hc
    change cur.toList.take (rl.length * 2) = inner at ht
    have e : ∀ k, k < 2 → cur[j * 2 + k]? = ((inner.drop (j * 2)).take 2)[k]? := by
      intro k hk
      rw [List.getElem?_take_of_lt hk, List.getElem?_drop, ← ht, List.getElem?_take_of_lt (by omega)]
      simp
    have e0 := e 0 (by omega)
    have e1 := e 1 (by omega)
    change c0 = [.string y.1] at h1
    change c1 = [.slice y.2.1 y.2.2.1 y.2.2.2] at h2
    rw [hc, h1, h2] at e0 e1
    exact ⟨e0, e1⟩
theorem RawBlk.cell {w : World} {g : Nat} {rl : List (ByteArray × (Option Addr × Nat × Nat))} (h : RawBlk w g rl) {j : Nat} {y : ByteArray × (Option Addr × Nat × Nat)} (hj : rl[j]? = some y) :
    w.cell? ⟨g, j * 2 + 1, none⟩ = some (.slice y.2.1 y.2.2.1 y.2.2.2) ∧ w.frozen? ⟨g, j * 2 + 1, none⟩ = false := by
  obtain ⟨cur, hb, hc⟩ := h
  exact ⟨(blk_cell hb _).trans (hc j y hj).2, blk_frozen hb _⟩
theorem RawBlk.keep {w w1 : World} {g : Nat} {rl : List (ByteArray × (Option Addr × Nat × Nat))} (h : RawBlk w g rl) (he : w1.heap[g]? = w.heap[g]?) : RawBlk w1 g rl := by
  obtain ⟨cur, hb, hc⟩ := h
  exact ⟨cur, he.trans hb, hc⟩
theorem RawBlk.below {w w1 : World} {g : Nat} {rl : List (ByteArray × (Option Addr × Nat × Nat))} (h : RawBlk w g rl) (hb : Below w.heap.size w w1) : RawBlk w1 g rl := by
  obtain ⟨cur, hb0, hc⟩ := h
  exact ⟨cur, blk_below hb0 hb, hc⟩
theorem RawBlk.set {w : World} {g : Nat} {rl : List (ByteArray × (Option Addr × Nat × Nat))} (h : RawBlk w g rl) (i : Nat) {y : ByteArray × (Option Addr × Nat × Nat)} (hi : rl[i]? = some y) (A : Option Addr) (n c : Nat) :
    RawBlk (w.setCell ⟨g, i * 2 + 1, none⟩ (.slice A n c)) g (rl.set i (y.1, (A, n, c))) := by
  obtain ⟨cur, hb, hc⟩ := h
  refine ⟨_, blk_set hb _ _, fun j z hj => ?_⟩
  have hil : i < rl.length := (List.getElem?_eq_some_iff.1 hi).1
  have hin : i * 2 + 1 < cur.size := by
    have := (hc i y hi).2
    exact (Array.getElem?_eq_some_iff.1 this).1
  rw [List.getElem?_set] at hj
  by_cases hij : i = j
  · subst hij
    rw [if_pos rfl, if_pos hil] at hj
    obtain rfl := Option.some.inj hj
    refine ⟨?_, ?_⟩
    · rw [Array.getElem?_setIfInBounds_ne (by omega)]
      exact (hc i y hi).1
    · rw [Array.getElem?_setIfInBounds_self_of_lt hin]
  · rw [if_neg hij] at hj
    rw [Array.getElem?_setIfInBounds_ne (by omega), Array.getElem?_setIfInBounds_ne (by omega)]
    exact hc j z hj
theorem RawBlk.row {w : World} {g : Nat} {rl : List (ByteArray × (Option Addr × Nat × Nat))} (h : RawBlk w g rl) (hm : rl.length ≤ 9223372036854775807) : Kd.C kraw w (some ⟨g, 0, none⟩) rl.length rl := by
  obtain ⟨cur, hb, hc⟩ := h
  refine ⟨rfl, hm, fun _ => ⟨⟨g, 0, none⟩, rfl, fun j y hj => ⟨[.string y.1, .slice y.2.1 y.2.2.1 y.2.2.2], rfl, ⟨[.string y.1], [.slice y.2.1 y.2.2.1 y.2.2.2], rfl, rfl, rfl⟩, fun k u hk => ?_⟩⟩⟩
  change w.cell? (Addr.add ⟨g, 0, none⟩ (j * 2 + k)) = some u
  rw [add_plain, blk_cell hb]
  obtain ⟨h1, h2⟩ := hc j y hj
  rcases k with _ | _ | k
  · exact h1.trans (by simpa using hk)
  · exact h2.trans (by simpa using hk)
  · simp at hk
/-- A pool whose targets stand in a row of the call's own. -/
def RawOwn (w : World) (base : Nat) (x : S67) (y : ByteArray × (Option Addr × Nat × Nat)) : Prop :=
  y.1 = x.f0 ∧ y.2.2.1 = x.f1.length ∧ x.f1.length ≤ y.2.2.2 ∧ Kd.R k69 69 w base (fun _ => True) (.slice y.2.1 x.f1.length y.2.2.2) x.f1
theorem RawOwn.below {w w1 : World} {base : Nat} {x : S67} {y : ByteArray × (Option Addr × Nat × Nat)} (h : RawOwn w base x y) (hb : Below w.heap.size w w1) : RawOwn w1 base x y := ⟨h.1, h.2.1, h.2.2.1, Kd.R_below h.2.2.2 hb⟩
theorem RawOwn.set {w : World} {base : Nat} {x : S67} {y : ByteArray × (Option Addr × Nat × Nat)} (h : RawOwn w base x y) {g : Nat} {rl : List (ByteArray × (Option Addr × Nat × Nat))} (hb : RawBlk w g rl) (j : Nat) (u : Value) : RawOwn (w.setCell ⟨g, j, none⟩ u) base x y := by
  obtain ⟨cur, hb0, _⟩ := hb
  exact ⟨h.1, h.2.1, h.2.2.1, Kd.R_set h.2.2.2 hb0 (by decide) j u⟩
theorem RawOwn.of {w : World} {base : Nat} {x : S67} {y : ByteArray × (Option Addr × Nat × Nat)} (h : RawOwn w base x y) : RawOf w x y := by
  obtain ⟨h1, h2, h3, h4⟩ := h
  obtain ⟨A, c, he, hl, hr⟩ := Kd.R_reads h4
  injection he with e1 e2 e3
  exact ⟨h1, h2, h3, by rw [e1]; exact hr⟩
theorem RawOwn.setT {w : World} {base : Nat} {x : S67} {y : ByteArray × (Option Addr × Nat × Nat)} (h : RawOwn w base x y) {g t : Nat} {cells : Array Value} (hb : w.heap[g]? = some (.cells cells t (0, 0))) (ht : ∀ q, q ∈ 69 :: k69.E → q ≠ t) (j : Nat) (u : Value) : RawOwn (w.setCell ⟨g, j, none⟩ u) base x y :=
  ⟨h.1, h.2.1, h.2.2.1, Kd.R_set h.2.2.2 hb ht j u⟩
theorem RawBlk.far {w : World} {g : Nat} {rl : List (ByteArray × (Option Addr × Nat × Nat))} (h : RawBlk w g rl) {q : Nat} (hne : g ≠ q) (j : Nat) (u : Value) : RawBlk (w.setCell ⟨q, j, none⟩ u) g rl := h.keep (Below.heap_setCell w ⟨q, j, none⟩ u g hne)
/-- Pools of the call's own: their row, and each one's targets. -/
def PoolsOwn (w : World) (base : Nat) (A : Option Addr) (c : Nat) (l : List S67) : Prop :=
  l.length ≤ c ∧ l.length ≤ 9223372036854775807 ∧ (l = [] ∨ ∃ (bg : Nat) (rl : List (ByteArray × (Option Addr × Nat × Nat))), A = some ⟨bg, 0, none⟩ ∧ base ≤ bg ∧ rl.length = l.length ∧ RawBlk w bg rl ∧ ∀ (j : Nat) (x : S67) (y : (ByteArray × (Option Addr × Nat × Nat))), l[j]? = some x → rl[j]? = some y → RawOwn w base x y)
theorem PoolsOwn.C {w : World} {base : Nat} {A : Option Addr} {c : Nat} {l : List S67} (h : PoolsOwn w base A c l) : Kd.C k67 w A l.length l := by
  obtain ⟨_, hm, rfl | ⟨bg, rl, rfl, _, hl, hb, ho⟩⟩ := h
  · exact ⟨rfl, by simp, fun h => absurd h (Nat.lt_irrefl 0)⟩
  · exact raw_row hl (hb.row (by omega)) (fun j x y hx hy => (ho j x y hx hy).of)
theorem PoolsOwn.below {w w1 : World} {base : Nat} {A : Option Addr} {c : Nat} {l : List S67} (h : PoolsOwn w base A c l) (hw : Below w.heap.size w w1) : PoolsOwn w1 base A c l := by
  obtain ⟨h1, h2, h3 | ⟨bg, rl, h4, h5, h6, h7, h8⟩⟩ := h
  · exact ⟨h1, h2, .inl h3⟩
  · exact ⟨h1, h2, .inr ⟨bg, rl, h4, h5, h6, h7.below hw, fun j x y hx hy => (h8 j x y hx hy).below hw⟩⟩
theorem PoolsOwn.setT {w : World} {base : Nat} {A : Option Addr} {c : Nat} {l : List S67} (h : PoolsOwn w base A c l) {g t : Nat} {cells : Array Value} (hb : w.heap[g]? = some (.cells cells t (0, 0))) (ht : ∀ q, q ∈ 69 :: k69.E → q ≠ t) (ht2 : 67 ≠ t) (j : Nat) (u : Value) : PoolsOwn (w.setCell ⟨g, j, none⟩ u) base A c l := by
  obtain ⟨h1, h2, h3 | ⟨bg, rl, h4, h5, h6, h7, h8⟩⟩ := h
  · exact ⟨h1, h2, .inl h3⟩
  · have hne : bg ≠ g := by
      obtain ⟨cur, hc, _⟩ := h7
      exact blk_ne hc hb ht2
    exact ⟨h1, h2, .inr ⟨bg, rl, h4, h5, h6, h7.far hne j u, fun j' x y hx hy => (h8 j' x y hx hy).setT hb ht j u⟩⟩
theorem PoolsOwn.lower {w : World} {base base' : Nat} {A : Option Addr} {c : Nat} {l : List S67} (h : PoolsOwn w base A c l) (hb : base' ≤ base) : PoolsOwn w base' A c l := by
  obtain ⟨h1, h2, h3 | ⟨bg, rl, h4, h5, h6, h7, h8⟩⟩ := h
  · exact ⟨h1, h2, .inl h3⟩
  · exact ⟨h1, h2, .inr ⟨bg, rl, h4, Nat.le_trans hb h5, h6, h7, fun j x y hx hy => ⟨(h8 j x y hx hy).1, (h8 j x y hx hy).2.1, (h8 j x y hx hy).2.2.1, Kd.R_lower (h8 j x y hx hy).2.2.2 hb⟩⟩⟩
end Go.Proofs.YtabkdmfnafeaeaaDoor.S
end
section
/-! plane.copied. -/
namespace Go.Proofs.YtabkdmfnafeaeaaDoor.S
open Go.RowKit Go.Proofs.YtabkdmfnafeaeaaDoorW.PrintWords Go.Proofs.YtabkdmfnafeaeaaDoorW.PrintLast Go.Proofs.YtabkdmfnafeaeaaDoorW.PrintMore
set_option linter.unusedVariables false
set_option linter.unusedSimpArgs false
noncomputable def copied_T1 : Bool × List (List Nat × List Nat) := rtab .any (opsOf Tryd.f56 1)
theorem copied_tab1 : rtab .any (opsOf Tryd.f56 1) = copied_T1 := rfl
noncomputable def copied_T5 : Bool × List (List Nat × List Nat) := rtab .any (opsOf Tryd.f56 5)
theorem copied_tab5 : rtab .any (opsOf Tryd.f56 5) = copied_T5 := rfl
set_option maxHeartbeats 4000000 in
set_option maxRecDepth 100000 in
theorem copied_ok (a : Int) (A1 : Option Addr) (c1 : Nat) (l1 : List S93) (A2 : Option Addr) (c2 : Nat) (l2 : List S67) (w : World) (hr1 : Kd.C k93 w A1 l1.length l1) (hc1 : l1.length ≤ c1) (hr2 : Kd.C k67 w A2 l2.length l2) (hc2 : l2.length ≤ c2)
    (hl1 : l1.length ≤ 2000) (hl2 : l2.length ≤ 2000) (hl3 : ∀ x, x ∈ l2 → x.f1.length ≤ 2000) :
    Calls Tryd.prog 56 #[.agg #[.int .i64 a, .slice A1 l1.length c1, .slice A2 l2.length c2]] w fun e w' => ∃ B1 d1 B2 d2, e = .returned (.agg #[.int .i64 a, .slice B1 l1.length d1, .slice B2 l2.length d2]) ∧
      Kd.R k93 93 w' w.heap.size (fun _ => True) (.slice B1 l1.length d1) l1 ∧ l1.length ≤ d1 ∧ PoolsOwn w' w.heap.size B2 d2 l2 ∧ Below w.heap.size w w' := by
  have HB := Aside0.mk (Below.refl w.heap.size w)
  have hu55 := Tryd.underlying55
  have HR1 := Aside0.mk hr1
  have HR2 := Aside0.mk hr2
  clear hr1 hr2
  obtain ⟨rl, hrl, hrc, hraw⟩ := raw_of HR2.out
  have HRL := Aside0.mk hrc
  have HRAW := Aside0.mk hraw
  clear hrc hraw
  have HLEN := Aside0.mk hrl
  clear hrl
  go_enter Tryd.func56, Tryd.ntmps56
  go_wp2_with (first | ((with_reducible refine gate_dst (N := 1) rfl ?_); refine box_event ?hg (N := 1) ?hd (cs := #[.int .i64 a, .slice A1 l1.length c1, .slice A2 l2.length c2]) (t := 55) ?hr ?_; (case hd => rfl); (case hg => rfl); (case hr => first | (go_simp; done) | (go_simp; rfl)); intro g1 hg w1 hbox hb; have n0_ := Aside0.mk (below_step HB.out hb); have BK1 := Aside0.mk hbox; have GE1 := Aside0.mk (Nat.le_of_eq hg.symm); clear HB; have HB := n0_; clear hb hbox hg n0_) | ((with_reducible refine gate_dst (N := 2) rfl ?_); refine box_event ?hg (N := 2) ?hd (cs := #[.int .i64 0, .slice none 0 0, .slice none 0 0]) (t := 55) ?hr ?_; (case hd => rfl); (case hg => rfl); (case hr => first | (go_simp; done) | (go_simp; rfl)); intro g2 hg w2 hbox hb; have n0_ := Aside0.mk (below_step HB.out hb); have n1_ := Aside0.mk (blk_below BK1.out hb); have BK2 := Aside0.mk hbox; have GE2 := Aside0.mk (by rw [hg]; exact (below_size HB.out) : w.heap.size ≤ g2); have NE := Aside0.mk (by have := blk_lt BK1.out; omega : g1 ≠ g2); clear HB BK1; have HB := n0_; have BK1 := n1_; clear hb hbox hg n0_ n1_))
  refine start_ (n := 10) (S := fun w' => w'.cell? ⟨g1, 0, none⟩ = some (.int .i64 a) ∧ w'.cell? ⟨g1, 1, none⟩ = some (.slice A1 l1.length c1) ∧ w'.cell? ⟨g1, 2, none⟩ = some (.slice A2 l2.length c2)) (ds := [7, 9]) #[false, false, false, false, false, false, false, false, false, false] (by kernel_rfl) rfl rfl ⟨(blk_cell BK1.out 0).trans rfl, (blk_cell BK1.out 1).trans rfl, (blk_cell BK1.out 2).trans rfl⟩ (fun hHeld => ?_)
  refine with_tab (T := copied_T1) copied_tab1 (fun HT_ => ?_)
  have n0_ := Aside0.mk (blk_drew BK1.out)
  have n1_ := Aside0.mk (blk_drew BK2.out)
  have n2_ := Aside0.mk (below_drew1 HB.out)
  clear BK1 BK2 HB
  have BK1 := n0_
  have BK2 := n1_
  have HB := n2_
  clear n0_ n1_ n2_
  generalize w2.drew = w3 at BK1 BK2 HB hHeld ⊢
  refine pure_ (i := 0) (N := some 4) (v := ?_) (a' := ?_) #[true, false, false, false, false, false, false, false, false, false] rfl rfl (any_of HT_.out (by kernel_rfl)) (fun _ _ _ h => h) (Or.inl ⟨by rfl, ?_⟩) ?_ ?_
  rotate_left
  · intro w'
    go_simp
    with_reducible rfl
  rotate_left
  · simp only [Act.put, List.setIfInBounds_toArray, List.set_cons_zero, List.set_cons_succ, i64_w, i32_w]
    rfl
  refine pure_ (i := 3) (N := some 7) (v := ?_) (a' := ?_) #[true, false, false, true, false, false, false, false, false, false] rfl rfl (any_of HT_.out (by kernel_rfl)) (fun _ _ _ h => h) (Or.inl ⟨by rfl, ?_⟩) ?_ ?_
  rotate_left
  · intro w'
    go_simp
    with_reducible rfl
  rotate_left
  · simp only [Act.put, List.setIfInBounds_toArray, List.set_cons_zero, List.set_cons_succ, i64_w, i32_w]
    rfl
  refine take_ (i := 1) (N := some 5) (v := ?_) (a' := ?_) #[true, true, false, true, false, false, false, false, false, false] rfl rfl (take_of HT_.out (by kernel_rfl)) (fun _ _ _ h => h) (Or.inl ⟨by rfl, ?_⟩) hHeld ?_ ?_
  rotate_left
  · rintro w' ⟨s0, s1, s2⟩
    go_simp
    with_reducible rfl
  rotate_left
  · simp only [Act.put, List.setIfInBounds_toArray, List.set_cons_zero, List.set_cons_succ, i64_w, i32_w]
    rfl
  refine take_ (i := 4) (N := some 8) (v := ?_) (a' := ?_) #[true, true, false, true, true, false, false, false, false, false] rfl rfl (take_of HT_.out (by kernel_rfl)) (fun _ _ _ h => h) (Or.inl ⟨by rfl, ?_⟩) hHeld ?_ ?_
  rotate_left
  · rintro w' ⟨s0, s1, s2⟩
    go_simp
    with_reducible rfl
  rotate_left
  · simp only [Act.put, List.setIfInBounds_toArray, List.set_cons_zero, List.set_cons_succ, i64_w, i32_w]
    rfl
  refine one_ (i := 2) (N := some 6) #[true, true, true, true, true, false, false, false, false, false] rfl rfl (one_of HT_.out (by kernel_rfl)) (by decide) (fun K hK => ?_)
  refine goes_ Tryd.func87 (by kernel_rfl) rfl #[.slice A1 l1.length c1] (by rfl) rfl rfl (by (try simp only [List.map_toArray, List.map_cons, List.map_nil]); first | done | rfl) ?_
  refine (clone_Route A1 c1 l1 w3 (Kd.C_below HR1.out HB.out) hc1 hl1).mono ?_
  rintro e w4 ⟨v1, rfl, ho, hb⟩
  obtain ⟨B1, d1, rfl, hd1, _⟩ := Kd.R_reads ho
  have HD1 := Aside0.mk hd1
  clear hd1
  refine ⟨_, rfl, ?_⟩
  have HO1 := Aside0.mk (Kd.R_lower ho (below_size HB.out))
  have n0_ := Aside0.mk (blk_below BK1.out hb)
  have n1_ := Aside0.mk (blk_below BK2.out hb)
  have n2_ := Aside0.mk (below_step HB.out hb)
  clear BK1 BK2 HB ho hb
  have BK1 := n0_
  have BK2 := n1_
  have HB := n2_
  clear n0_ n1_ n2_
  refine hK.out _ _ ⟨(blk_cell BK1.out 0).trans rfl, (blk_cell BK1.out 1).trans rfl, (blk_cell BK1.out 2).trans rfl⟩ (fun hHeld => ?_)
  clear hK K
  refine norm_ (a' := ?_) ?_ ?_
  rotate_left
  · show Act.put _ (some 6) _ = _
    simp only [Act.put, List.setIfInBounds_toArray, List.set_cons_zero, List.set_cons_succ, i64_w, i32_w]
    rfl
  refine pure_ (i := 6) (N := some 10) (v := ?_) (a' := ?_) #[true, true, true, true, true, false, true, false, false, false] rfl rfl (any_of HT_.out (by kernel_rfl)) (fun _ _ _ h => h) (Or.inl ⟨by rfl, ?_⟩) ?_ ?_
  rotate_left
  · intro w'
    go_simp
    with_reducible rfl
  rotate_left
  · simp only [Act.put, List.setIfInBounds_toArray, List.set_cons_zero, List.set_cons_succ, i64_w, i32_w]
    rfl
  refine one_ (i := 5) (N := some 9) #[true, true, true, true, true, true, true, false, false, false] rfl rfl (one_of HT_.out (by kernel_rfl)) (by decide) (fun K hK => ?_)
  refine goes_ Tryd.func88 (by kernel_rfl) rfl #[.slice A2 l2.length c2] (by rfl) rfl rfl (by (try simp only [List.map_toArray, List.map_cons, List.map_nil]); first | done | rfl) ?_
  have h_ := clone_Pool A2 c2 rl w4 (Kd.C_below HRL.out HB.out) (by rw [HLEN.out]; exact hc2) (by rw [HLEN.out]; exact hl2)
  rw [HLEN.out] at h_
  refine (h_).mono ?_
  rintro e w5 ⟨v2, rfl, ho, hb⟩
  obtain ⟨B2, d2, rfl, hd2, _⟩ := Kd.R_reads ho
  have HD2 := Aside0.mk hd2
  clear hd2
  refine ⟨_, rfl, ?_⟩
  have HO2 := Aside0.mk (Kd.R_lower ho (below_size HB.out))
  have n0_ := Aside0.mk (blk_below BK1.out hb)
  have n1_ := Aside0.mk (blk_below BK2.out hb)
  have n2_ := Aside0.mk (below_step HB.out hb)
  have n3_ := Aside0.mk (Kd.R_below HO1.out hb)
  clear BK1 BK2 HB HO1 ho hb
  have BK1 := n0_
  have BK2 := n1_
  have HB := n2_
  have HO1 := n3_
  clear n0_ n1_ n2_ n3_
  refine hK.out _ _ ⟨(blk_cell BK1.out 0).trans rfl, (blk_cell BK1.out 1).trans rfl, (blk_cell BK1.out 2).trans rfl⟩ (fun hHeld => ?_)
  clear hK K
  refine norm_ (a' := ?_) ?_ ?_
  rotate_left
  · show Act.put _ (some 9) _ = _
    simp only [Act.put, List.setIfInBounds_toArray, List.set_cons_zero, List.set_cons_succ, i64_w, i32_w]
    rfl
  refine last_ (i := 7) (N := none) #[true, true, true, true, true, true, true, true, false, false] rfl rfl (one_of HT_.out (by kernel_rfl)) (by decide) (fun K hK => ?_)
  have hs_ := (blk_cell BK1.out 1).trans (show _ = some (.slice A1 l1.length c1) from rfl)
  have hf_ := blk_frozen BK1.out 1
  refine skip_ (w1 := ?_) (by rfl) rfl ?_ ?_
  rotate_left
  · go_simp
    rfl
  refine hK.out _ _ ?_
  clear hK K hs_ hf_
  have n0_ := Aside0.mk (blk_put (cs' := #[.int .i64 a, .slice B1 l1.length d1, .slice A2 l2.length c2]) BK1.out 1 (.slice B1 l1.length d1) rfl)
  have n1_ := Aside0.mk (blk_far BK2.out (p := ⟨g1, 1, none⟩) NE.out.symm (.slice B1 l1.length d1))
  have n2_ := Aside0.mk (below_set (j := 1) (v := (.slice B1 l1.length d1)) HB.out GE1.out)
  have n3_ := Aside0.mk (Kd.R_set HO1.out BK1.out (by decide) 1 (.slice B1 l1.length d1))
  have n4_ := Aside0.mk (Kd.R_set HO2.out BK1.out (by decide) 1 (.slice B1 l1.length d1))
  clear BK1 BK2 HB HO1 HO2
  have BK1 := n0_
  have BK2 := n1_
  have HB := n2_
  have HO1 := n3_
  have HO2 := n4_
  clear n0_ n1_ n2_ n3_ n4_
  refine pure_ (i := 8) (N := some 11) (v := ?_) (a' := ?_) #[true, true, true, true, true, true, true, true, true, false] rfl rfl (any_of HT_.out (by kernel_rfl)) (fun _ _ _ h => h) (Or.inl ⟨by rfl, ?_⟩) ?_ ?_
  rotate_left
  · intro w'
    go_simp
    with_reducible rfl
  rotate_left
  · simp only [Act.put, List.setIfInBounds_toArray, List.set_cons_zero, List.set_cons_succ, i64_w, i32_w]
    rfl
  refine last_ (i := 9) (N := none) #[true, true, true, true, true, true, true, true, true, true] rfl rfl (one_of HT_.out (by kernel_rfl)) (by decide) (fun K hK => ?_)
  have hs_ := (blk_cell BK1.out 2).trans (show _ = some (.slice A2 l2.length c2) from rfl)
  have hf_ := blk_frozen BK1.out 2
  refine skip_ (w1 := ?_) (by rfl) rfl ?_ ?_
  rotate_left
  · go_simp
    rfl
  refine hK.out _ _ ?_
  clear hK K hs_ hf_
  have n0_ := Aside0.mk (blk_put (cs' := #[.int .i64 a, .slice B1 l1.length d1, .slice B2 rl.length d2]) BK1.out 2 (.slice B2 rl.length d2) rfl)
  have n1_ := Aside0.mk (blk_far BK2.out (p := ⟨g1, 2, none⟩) NE.out.symm (.slice B2 rl.length d2))
  have n2_ := Aside0.mk (below_set (j := 2) (v := (.slice B2 rl.length d2)) HB.out GE1.out)
  have n3_ := Aside0.mk (Kd.R_set HO1.out BK1.out (by decide) 2 (.slice B2 rl.length d2))
  have n4_ := Aside0.mk (Kd.R_set HO2.out BK1.out (by decide) 2 (.slice B2 rl.length d2))
  clear BK1 BK2 HB HO1 HO2
  have BK1 := n0_
  have BK2 := n1_
  have HB := n2_
  have HO1 := n3_
  have HO2 := n4_
  clear n0_ n1_ n2_ n3_ n4_
  refine done_ (done_of HT_.out (by kernel_rfl)) ?_
  generalize ((w5.setCell ⟨g1, 1, none⟩ (.slice B1 l1.length d1)).setCell ⟨g1, 2, none⟩ (.slice B2 rl.length d2)) = w6 at BK1 BK2 HB HO1 HO2 ⊢
  obtain ⟨bg, hbg⟩ : ∃ bg, rl = [] ∨ (B2 = some ⟨bg, 0, none⟩ ∧ w.heap.size ≤ bg ∧ RawBlk w6 bg rl) := by
    rcases rawblk_of HO2.out with h | ⟨g, cap, he, hg, hb⟩
    · exact ⟨0, .inl h⟩
    · injection he with e1 e2 e3
      exact ⟨g, .inr ⟨e1, hg, hb⟩⟩
  have HBG := Aside0.mk hbg
  clear hbg HO2 HRL
  have q2 : w6.cell? ⟨g1, 2, none⟩ = some (.slice B2 rl.length d2) := (blk_cell BK1.out 2).trans rfl
  go_wp2
  clear q2
  go_loopg [15] (rl.length + 1) (fun n v15 wr => ∃ (i : Nat) (rli : List (ByteArray × (Option Addr × Nat × Nat))), v15 = .int .i64 (i : Int) ∧ Aside0 (i + n = rl.length + 1 ∧ i ≤ rl.length) ∧ Aside0 (rli.length = rl.length) ∧ Aside0 (wr.heap[g1]? = some (.cells #[.int .i64 a, .slice B1 l1.length d1, .slice B2 rl.length d2] 55 (0, 0))) ∧ Aside0 (wr.heap[g2]? = some (.cells #[.int .i64 0, .slice none 0 0, .slice none 0 0] 55 (0, 0))) ∧ Aside0 (Kd.R k93 93 wr w.heap.size (fun _ => True) (.slice B1 l1.length d1) l1) ∧ Aside0 (rl = [] ∨ RawBlk wr bg rli) ∧ Aside0 (∀ (j : Nat) (x : S67) (y : (ByteArray × (Option Addr × Nat × Nat))), l2[j]? = some x → rli[j]? = some y → (j < i → RawOwn wr w.heap.size x y) ∧ (i ≤ j → rl[j]? = some y)) ∧ Aside0 (Below w.heap.size w wr))
  case atStart => exact ⟨0, rl, rfl, ⟨by omega, by omega⟩, ⟨rfl⟩, ⟨BK1.out⟩, ⟨BK2.out⟩, ⟨HO1.out⟩, ⟨HBG.out.imp id (fun h => h.2.2)⟩, ⟨fun j x y hx hy => ⟨fun h => absurd h (Nat.not_lt_zero _), fun _ => hy⟩⟩, ⟨HB.out⟩⟩
  case round =>
    clear BK1 BK2 HO1 HB
    obtain ⟨i, rli, rfl, HN, HL, BK1, BK2, HO1, HRB, HINV, HB⟩ := hrel
    rcases Nat.lt_or_ge i rl.length with hi | hi
    · have c1 : decide ((i : Int) < (rl.length : Int)) = true := decide_eq_true (by omega)
      have hne : rl ≠ [] := by rintro rfl; simp at hi
      obtain ⟨hB, hbase, _⟩ := HBG.out.resolve_left hne
      have hrb := HRB.out.resolve_left hne
      obtain ⟨x, hx⟩ : ∃ x, l2[i]? = some x := ⟨_, List.getElem?_eq_getElem (by have := HLEN.out; omega)⟩
      obtain ⟨⟨y1, yA, yn, yc⟩, hy⟩ : ∃ y, rli[i]? = some y := ⟨_, List.getElem?_eq_getElem (by have := HL.out; omega)⟩
      obtain ⟨h1, h2, h3, h4⟩ := HRAW.out i x _ hx ((HINV.out i x _ hx hy).2 (Nat.le_refl _))
      simp only at h1 h2 h3 h4
      subst h1 h2
      have q3 := (hrb.cell hy).1
      simp only at q3
      have q2 : wr.cell? ⟨g1, 2, none⟩ = some (.slice B2 rl.length d2) := (blk_cell BK1.out 2).trans rfl
      have HX := Aside0.mk hx
      have HY := Aside0.mk hy
      have HR4 := Aside0.mk h4
      have H3 := Aside0.mk h3
      have HI := Aside0.mk hi
      have HBS := Aside0.mk hbase
      have HQ := Aside0.mk hrb
      have HX3 := Aside0.mk (hl3 x (List.mem_of_getElem? hx))
      clear hx hy h4 h3 hbase hne hrb
      subst hB
      have hab : ∀ k : Nat, (Addr.add ⟨bg, 0, none⟩ k) = ⟨bg, k, none⟩ := fun k => by rw [add_plain]
      go_wp2
      have hrb := HQ.out
      refine start_ (n := 13) (S := fun w' => w'.cell? ⟨g1, 2, none⟩ = some (.slice (some ⟨bg, 0, none⟩) rl.length d2) ∧ w'.cell? ⟨bg, i * 2 + 1, none⟩ = some (.slice yA x.f1.length yc)) (ds := [12]) #[false, false, false, false, false, false, false, false, false, false, false, false, false] (by kernel_rfl) rfl rfl ⟨(blk_cell BK1.out 2).trans rfl, (hrb.cell HY.out).1⟩ (fun hHeld => ?_)
      refine with_tab (T := copied_T5) copied_tab5 (fun HT_ => ?_)
      clear q2 q3 hrb
      have n0_ := Aside0.mk (blk_drew BK1.out)
      have n1_ := Aside0.mk (blk_drew BK2.out)
      have n2_ := Aside0.mk (below_drew1 HB.out)
      have n3_ := Aside0.mk (Kd.R_drew HO1.out)
      have n4_ : Aside0 (RawBlk wr.drew bg rli) := ⟨HQ.out⟩
      have n5_ : Aside0 (∀ (j : Nat) (x : S67) (y : (ByteArray × (Option Addr × Nat × Nat))), l2[j]? = some x → rli[j]? = some y → (j < i → RawOwn wr.drew w.heap.size x y) ∧ (i ≤ j → rl[j]? = some y)) := ⟨HINV.out⟩
      clear BK1 BK2 HB HO1 HQ HINV HRB
      have BK1 := n0_
      have BK2 := n1_
      have HB := n2_
      have HO1 := n3_
      have HQ := n4_
      have HINV := n5_
      clear n0_ n1_ n2_ n3_ n4_ n5_
      generalize wr.drew = wq at BK1 BK2 HB HO1 HQ HINV hHeld ⊢
      refine pure_ (i := 0) (N := some 18) (v := ?_) (a' := ?_) #[true, false, false, false, false, false, false, false, false, false, false, false, false] rfl rfl (any_of HT_.out (by kernel_rfl)) (fun _ _ _ h => h) (Or.inl ⟨by rfl, ?_⟩) ?_ ?_
      rotate_left
      · intro w'
        go_simp
        with_reducible rfl
      rotate_left
      · simp only [Act.put, List.setIfInBounds_toArray, List.set_cons_zero, List.set_cons_succ, i64_w, i32_w]
        rfl
      refine take_ (i := 1) (N := some 19) (v := ?_) (a' := ?_) #[true, true, false, false, false, false, false, false, false, false, false, false, false] rfl rfl (take_of HT_.out (by kernel_rfl)) (fun _ _ _ h => h) (Or.inl ⟨by rfl, ?_⟩) hHeld ?_ ?_
      rotate_left
      · rintro w' ⟨s0, s1⟩
        go_simp
        with_reducible rfl
      rotate_left
      · simp only [Act.put, List.setIfInBounds_toArray, List.set_cons_zero, List.set_cons_succ, i64_w, i32_w]
        rfl
      refine pure_ (i := 2) (N := some 20) (v := ?_) (a' := ?_) #[true, true, true, false, false, false, false, false, false, false, false, false, false] rfl rfl (any_of HT_.out (by kernel_rfl)) (fun _ _ _ h => h) (Or.inl ⟨by rfl, ?_⟩) ?_ ?_
      rotate_left
      · intro w'
        go_simp
        with_reducible rfl
      rotate_left
      · simp only [Act.put, List.setIfInBounds_toArray, List.set_cons_zero, List.set_cons_succ, i64_w, i32_w]
        rfl
      refine pure_ (i := 3) (N := some 21) (v := ?_) (a' := ?_) #[true, true, true, true, false, false, false, false, false, false, false, false, false] rfl rfl (any_of HT_.out (by kernel_rfl)) (fun _ _ _ h => h) (Or.inl ⟨by rfl, ?_⟩) ?_ ?_
      rotate_left
      · intro w'
        go_simp
        with_reducible rfl
      rotate_left
      · simp only [Act.put, List.setIfInBounds_toArray, List.set_cons_zero, List.set_cons_succ, i64_w, i32_w]
        rfl
      refine take_ (i := 4) (N := some 22) (v := ?_) (a' := ?_) #[true, true, true, true, true, false, false, false, false, false, false, false, false] rfl rfl (take_of HT_.out (by kernel_rfl)) (fun _ _ _ h => h) (Or.inl ⟨by rfl, ?_⟩) hHeld ?_ ?_
      rotate_left
      · rintro w' ⟨s0, s1⟩
        go_simp
        with_reducible rfl
      rotate_left
      · simp only [Act.put, List.setIfInBounds_toArray, List.set_cons_zero, List.set_cons_succ, i64_w, i32_w]
        rfl
      refine pure_ (i := 5) (N := some 23) (v := ?_) (a' := ?_) #[true, true, true, true, true, true, false, false, false, false, false, false, false] rfl rfl (any_of HT_.out (by kernel_rfl)) (fun _ _ _ h => h) (Or.inl ⟨by rfl, ?_⟩) ?_ ?_
      rotate_left
      · intro w'
        go_simp
        with_reducible rfl
      rotate_left
      · simp only [Act.put, List.setIfInBounds_toArray, List.set_cons_zero, List.set_cons_succ, i64_w, i32_w]
        rfl
      refine pure_ (i := 6) (N := some 24) (v := ?_) (a' := ?_) #[true, true, true, true, true, true, true, false, false, false, false, false, false] rfl rfl (any_of HT_.out (by kernel_rfl)) (fun _ _ _ h => h) (Or.inl ⟨by rfl, ?_⟩) ?_ ?_
      rotate_left
      · intro w'
        go_simp
        with_reducible rfl
      rotate_left
      · simp only [Act.put, List.setIfInBounds_toArray, List.set_cons_zero, List.set_cons_succ, i64_w, i32_w]
        rfl
      refine pure_ (i := 7) (N := some 25) (v := ?_) (a' := ?_) #[true, true, true, true, true, true, true, true, false, false, false, false, false] rfl rfl (any_of HT_.out (by kernel_rfl)) (fun _ _ _ h => h) (Or.inl ⟨by rfl, ?_⟩) ?_ ?_
      rotate_left
      · intro w'
        go_simp
        with_reducible rfl
      rotate_left
      · simp only [Act.put, List.setIfInBounds_toArray, List.set_cons_zero, List.set_cons_succ, i64_w, i32_w]
        rfl
      refine take_ (i := 8) (N := some 26) (v := ?_) (a' := ?_) #[true, true, true, true, true, true, true, true, true, false, false, false, false] rfl rfl (take_of HT_.out (by kernel_rfl)) (fun _ _ _ h => h) (Or.inl ⟨by rfl, ?_⟩) hHeld ?_ ?_
      rotate_left
      · rintro w' ⟨s0, s1⟩
        go_simp
        with_reducible rfl
      rotate_left
      · simp only [Act.put, List.setIfInBounds_toArray, List.set_cons_zero, List.set_cons_succ, i64_w, i32_w]
        rfl
      refine one_ (i := 9) (N := some 27) #[true, true, true, true, true, true, true, true, true, true, false, false, false] rfl rfl (one_of HT_.out (by kernel_rfl)) (by decide) (fun K hK => ?_)
      refine goes_ Tryd.func89 (by kernel_rfl) rfl #[.slice yA x.f1.length yc] (by rfl) rfl rfl (by (try simp only [List.map_toArray, List.map_cons, List.map_nil]); first | done | rfl) ?_
      refine (clone_Target yA yc x.f1 wq (Kd.C_below HR4.out HB.out) H3.out HX3.out).mono ?_
      rintro e wv ⟨v3, rfl, ho, hb⟩
      obtain ⟨TA, tc, rfl, htc, _⟩ := Kd.R_reads ho
      have HTC := Aside0.mk htc
      clear htc
      refine ⟨_, rfl, ?_⟩
      have HO3 := Aside0.mk (Kd.R_lower ho (below_size HB.out))
      have n0_ := Aside0.mk (blk_below BK1.out hb)
      have n1_ := Aside0.mk (blk_below BK2.out hb)
      have n2_ := Aside0.mk (below_step HB.out hb)
      have n3_ := Aside0.mk (Kd.R_below HO1.out hb)
      have n4_ := Aside0.mk (HQ.out.below hb)
      have n5_ : Aside0 (∀ (j : Nat) (x : S67) (y : (ByteArray × (Option Addr × Nat × Nat))), l2[j]? = some x → rli[j]? = some y → (j < i → RawOwn wv w.heap.size x y) ∧ (i ≤ j → rl[j]? = some y)) := ⟨fun j x y hx hy => ⟨fun h => ((HINV.out j x y hx hy).1 h).below hb, (HINV.out j x y hx hy).2⟩⟩
      clear BK1 BK2 HB HO1 HQ HINV ho hb
      have BK1 := n0_
      have BK2 := n1_
      have HB := n2_
      have HO1 := n3_
      have HQ := n4_
      have HINV := n5_
      clear n0_ n1_ n2_ n3_ n4_ n5_
      refine hK.out _ _ ⟨(blk_cell BK1.out 2).trans rfl, (HQ.out.cell HY.out).1⟩ (fun hHeld => ?_)
      clear hK K
      refine norm_ (a' := ?_) ?_ ?_
      rotate_left
      · show Act.put _ (some 27) _ = _
        simp only [Act.put, List.setIfInBounds_toArray, List.set_cons_zero, List.set_cons_succ, i64_w, i32_w]
        rfl
      refine pure_ (i := 10) (N := some 28) (v := ?_) (a' := ?_) #[true, true, true, true, true, true, true, true, true, true, true, false, false] rfl rfl (any_of HT_.out (by kernel_rfl)) (fun _ _ _ h => h) (Or.inl ⟨by rfl, ?_⟩) ?_ ?_
      rotate_left
      · intro w'
        go_simp
        with_reducible rfl
      rotate_left
      · simp only [Act.put, List.setIfInBounds_toArray, List.set_cons_zero, List.set_cons_succ, i64_w, i32_w]
        rfl
      refine pure_ (i := 11) (N := some 29) (v := ?_) (a' := ?_) #[true, true, true, true, true, true, true, true, true, true, true, true, false] rfl rfl (any_of HT_.out (by kernel_rfl)) (fun _ _ _ h => h) (Or.inl ⟨by rfl, ?_⟩) ?_ ?_
      rotate_left
      · intro w'
        go_simp
        with_reducible rfl
      rotate_left
      · simp only [Act.put, List.setIfInBounds_toArray, List.set_cons_zero, List.set_cons_succ, i64_w, i32_w]
        rfl
      refine last_ (i := 12) (N := none) #[true, true, true, true, true, true, true, true, true, true, true, true, true] rfl rfl (one_of HT_.out (by kernel_rfl)) (by decide) (fun K hK => ?_)
      have hs_ := (HQ.out.cell HY.out).1
      have hf_ := (HQ.out.cell HY.out).2
      simp only at hs_
      refine skip_ (w1 := ?_) (by rfl) rfl ?_ ?_
      rotate_left
      · go_simp
        rfl
      refine hK.out _ _ ?_
      clear hK K hs_ hf_ hHeld
      refine done_ (done_of HT_.out (by kernel_rfl)) ?_
      obtain ⟨cur, hb0, hcur⟩ := id HQ.out
      clear hcur
      have HB0 := Aside0.mk hb0
      clear hb0
      have HINV2 : Aside0 (∀ (j : Nat) (x' : S67) (y' : (ByteArray × (Option Addr × Nat × Nat))), l2[j]? = some x' → (rli.set i (x.f0, (TA, x.f1.length, tc)))[j]? = some y' → (j < i + 1 → RawOwn (wv.setCell ⟨bg, i * 2 + 1, none⟩ (.slice TA x.f1.length tc)) w.heap.size x' y') ∧ (i + 1 ≤ j → rl[j]? = some y')) := ⟨by
        intro j x' y' hx' hy'
        have hil : i < rli.length := by have := HL.out; have := HI.out; omega
        rw [List.getElem?_set] at hy'
        by_cases hij : i = j
        · subst hij
          rw [if_pos rfl, if_pos hil] at hy'
          obtain rfl := Option.some.inj hy'
          obtain rfl : x = x' := Option.some.inj (HX.out.symm.trans hx')
          exact ⟨fun _ => ⟨rfl, rfl, HTC.out, Kd.R_set HO3.out HB0.out (by decide) _ _⟩, fun h => absurd h (by omega)⟩
        · rw [if_neg hij] at hy'
          exact ⟨fun h => ((HINV.out j x' y' hx' hy').1 (by omega)).set HQ.out _ _, fun h => (HINV.out j x' y' hx' hy').2 (by omega)⟩⟩
      have HBK1 := Aside0.mk (blk_far BK1.out (p := ⟨bg, i * 2 + 1, none⟩) (blk_ne BK1.out HB0.out (by decide)) (.slice TA x.f1.length tc))
      have HBK2 := Aside0.mk (blk_far BK2.out (p := ⟨bg, i * 2 + 1, none⟩) (blk_ne BK2.out HB0.out (by decide)) (.slice TA x.f1.length tc))
      have HO12 := Aside0.mk (Kd.R_set HO1.out HB0.out (by decide) (i * 2 + 1) (.slice TA x.f1.length tc))
      have HQ2 := Aside0.mk (HQ.out.set i HY.out TA x.f1.length tc)
      have HBB := Aside0.mk (below_set (j := i * 2 + 1) (v := .slice TA x.f1.length tc) HB.out HBS.out)
      clear BK1 BK2 HO1 HQ HB HINV HB0 HO3
      generalize (wv.setCell ⟨bg, i * 2 + 1, none⟩ (.slice TA x.f1.length tc)) = wz at HBK1 HBK2 HO12 HQ2 HBB HINV2 ⊢
      have hi9 : i < 2000 := by have := HI.out; have := HLEN.out; omega
      go_wp2
      go_roundg (rl.length - i)
      case measure => have := HN.out; have := HI.out; omega
      case rel => exact ⟨i + 1, rli.set i (x.f0, (TA, x.f1.length, tc)), by first | rfl | (simp; done) | (simp [*]; done), ⟨by have := HN.out; have := HI.out; omega⟩, ⟨by rw [List.length_set]; exact HL.out⟩, ⟨HBK1.out⟩, ⟨HBK2.out⟩, ⟨HO12.out⟩, ⟨.inr HQ2.out⟩, ⟨HINV2.out⟩, ⟨HBB.out⟩⟩
    · have c1 : decide ((i : Int) < (rl.length : Int)) = false := decide_eq_false (by omega)
      have hin : i = rl.length := by have := HN.out; omega
      have q0 : wr.cell? ⟨g1, 0, none⟩ = some (.int .i64 a) := (blk_cell BK1.out 0).trans rfl
      have q1 : wr.cell? ⟨g1, 1, none⟩ = some (.slice B1 l1.length d1) := (blk_cell BK1.out 1).trans rfl
      have q2 : wr.cell? ⟨g1, 2, none⟩ = some (.slice B2 rl.length d2) := (blk_cell BK1.out 2).trans rfl
      have z0 : wr.cell? ⟨g2, 0, none⟩ = some (.int .i64 0) := (blk_cell BK2.out 0).trans rfl
      have f0 := blk_frozen BK2.out 0
      have z1 : wr.cell? ⟨g2, 1, none⟩ = some (.slice none 0 0) := (blk_cell BK2.out 1).trans rfl
      have f1 := blk_frozen BK2.out 1
      have z2 : wr.cell? ⟨g2, 2, none⟩ = some (.slice none 0 0) := (blk_cell BK2.out 2).trans rfl
      have f2 := blk_frozen BK2.out 2
      go_wp2
      refine bodyPost_ret (results_single rfl (Vals.cell g2 55 #[.int .i64 a, .slice B1 l1.length d1, .slice B2 rl.length d2] (0, 0) _ rfl (blk_put (blk_put (blk_put BK2.out 0 _ rfl) 1 _ rfl) 2 _ rfl) Tryd.underlying55 rfl (by kernel_rfl) Vals.nil)) rfl ?_
      have b0 := BK2.out
      have b1 := blk_put (cs' := #[.int .i64 a, .slice none 0 0, .slice none 0 0]) b0 0 (.int .i64 a) rfl
      have b2 := blk_put (cs' := #[.int .i64 a, .slice B1 l1.length d1, .slice none 0 0]) b1 1 (.slice B1 l1.length d1) rfl
      refine ⟨B1, d1, B2, d2, by rw [HLEN.out], Kd.R_set (Kd.R_set (Kd.R_set HO1.out b0 (by decide) 0 (.int .i64 a)) b1 (by decide) 1 (.slice B1 l1.length d1)) b2 (by decide) 2 (.slice B2 rl.length d2), HD1.out, ⟨by rw [← HLEN.out]; exact HD2.out, by omega, ?_⟩, below_set (below_set (below_set HB.out GE2.out) GE2.out) GE2.out⟩
      by_cases hne : rl = []
      · exact .inl (List.length_eq_zero_iff.1 (by rw [← HLEN.out, hne]; rfl))
      · obtain ⟨hB, hbase, _⟩ := HBG.out.resolve_left hne
        have hrb := HRB.out.resolve_left hne
        obtain ⟨cur, hb0, _⟩ := id hrb
        have hgn : bg ≠ g2 := blk_ne hb0 BK2.out (by decide)
        subst hB
        exact .inr ⟨bg, rli, rfl, hbase, HL.out.trans HLEN.out, ((hrb.far hgn 0 _).far hgn 1 _).far hgn 2 _, fun j x y hx hy => ((((HINV.out j x y hx hy).1 (by have := (List.getElem?_eq_some_iff.1 hx).1; have := HLEN.out; omega)).setT b0 (by decide) 0 (.int .i64 a)).setT b1 (by decide) 1 (.slice B1 l1.length d1)).setT b2 (by decide) 2 (.slice (some ⟨bg, 0, none⟩) rl.length d2)⟩
end Go.Proofs.YtabkdmfnafeaeaaDoor.S
end
section
/-! Plane.Apply of a newer configuration, Plane.Config. -/
namespace Go.Proofs.YtabkdmfnafeaeaaDoor.S
open Go.RowKit Go.Proofs.YtabkdmfnafeaeaaDoorW.PrintWords Go.Proofs.YtabkdmfnafeaeaaDoorW.PrintLast Go.Proofs.YtabkdmfnafeaeaaDoorW.PrintMore
set_option linter.unusedVariables false
set_option linter.unusedSimpArgs false
/-- A plane whose rows are of memory that nobody else has. -/
def PlaneOwn (W : World) (base g : Nat) (f0 : Int) (f1 : List S93) (f2 : List S67) : Prop :=
  ∃ A1 c1 A2 c2, W.heap[g]? = some (.cells #[.int .i64 f0, .slice A1 f1.length c1, .slice A2 f2.length c2] 97 (0, 0)) ∧ Kd.R k93 93 W base (fun _ => True) (.slice A1 f1.length c1) f1 ∧ f1.length ≤ c1 ∧ PoolsOwn W base A2 c2 f2
theorem PlaneOwn.at_ {W : World} {base g : Nat} {f0 : Int} {f1 : List S93} {f2 : List S67} (h : PlaneOwn W base g f0 f1 f2) : PlaneAt W g f0 f1 f2 := by
  obtain ⟨A1, c1, A2, c2, h0, h1, h2, h3⟩ := h
  obtain ⟨A, c, he, _, hr⟩ := Kd.R_reads h1
  injection he with e1 e2 e3
  subst e1
  exact ⟨A1, c1, A2, c2, h0, hr, h2, h3.C, h3.1⟩
theorem PlaneOwn.below {W W1 : World} {base g : Nat} {f0 : Int} {f1 : List S93} {f2 : List S67} (h : PlaneOwn W base g f0 f1 f2) (hb : Below W.heap.size W W1) : PlaneOwn W1 base g f0 f1 f2 := by
  obtain ⟨A1, c1, A2, c2, h0, h1, h2, h3⟩ := h
  exact ⟨A1, c1, A2, c2, blk_below h0 hb, Kd.R_below h1 hb, h2, h3.below hb⟩
/-- A store into another plane. -/
theorem PlaneOwn.far {W : World} {base g : Nat} {f0 : Int} {f1 : List S93} {f2 : List S67} (h : PlaneOwn W base g f0 f1 f2) {g' : Nat} {cells : Array Value} (hb : W.heap[g']? = some (.cells cells 97 (0, 0))) (hne : g ≠ g') (j : Nat) (u : Value) : PlaneOwn (W.setCell ⟨g', j, none⟩ u) base g f0 f1 f2 := by
  obtain ⟨A1, c1, A2, c2, h0, h1, h2, h3⟩ := h
  exact ⟨A1, c1, A2, c2, blk_far h0 (p := ⟨g', j, none⟩) hne u, Kd.R_set h1 hb (by decide) j u, h2, h3.setT hb (by decide) (by decide) j u⟩
set_option maxHeartbeats 2000000 in
set_option maxRecDepth 100000 in
theorem apply_ok {g : Nat} {f0 : Int} {f1 : List S93} {f2 : List S67} {w : World} (h : PlaneAt w g f0 f1 f2) (a : Int) (A1 : Option Addr) (c1 : Nat) (l1 : List S93) (A2 : Option Addr) (c2 : Nat) (l2 : List S67) (hr1 : Kd.C k93 w A1 l1.length l1) (hc1 : l1.length ≤ c1) (hr2 : Kd.C k67 w A2 l2.length l2) (hc2 : l2.length ≤ c2)
    (hl1 : l1.length ≤ 2000) (hl2 : l2.length ≤ 2000) (hl3 : ∀ x, x ∈ l2 → x.f1.length ≤ 2000) (ha : f0 < a) :
    Calls Tryd.prog 29 #[.pointer (some ⟨g, 0, none⟩), .agg #[.int .i64 a, .slice A1 l1.length c1, .slice A2 l2.length c2]] w fun e w' => e = .returned (.int .i64 0) ∧ PlaneOwn w' w.heap.size g a l1 l2 ∧ (∀ n, n ≤ g → n ≤ w.heap.size → Below n w w') ∧ (∀ k, k < w.heap.size → k ≠ g → w'.heap[k]? = w.heap[k]?) ∧ (∀ base g' h0 h1 h2, g' ≠ g → PlaneOwn w base g' h0 h1 h2 → PlaneOwn w' base g' h0 h1 h2) := by
  obtain ⟨A1', c1', A2', c2', h0, _, _, _, _⟩ := h
  have HB := Aside0.mk (Below.refl w.heap.size w)
  have H0 := Aside0.mk h0
  have HR1 := Aside0.mk hr1
  have HR2 := Aside0.mk hr2
  have HL3 := Aside0.mk hl3
  have hu97 := Tryd.underlying97
  have hu55 := Tryd.underlying55
  clear h0 hr1 hr2 hl3
  go_enter Tryd.func29, Tryd.ntmps29
  go_wp2_with (first | ((with_reducible refine gate_dst (N := 3) rfl ?_); refine box_event ?hg (N := 3) ?hd (cs := #[.int .i64 a, .slice A1 l1.length c1, .slice A2 l2.length c2]) (t := 55) ?hr ?_; (case hd => rfl); (case hg => rfl); (case hr => first | (go_simp; done) | (go_simp; rfl)); intro gb hg w1 hbox hb; have n0_ := Aside0.mk (below_step HB.out hb); have n1_ := Aside0.mk (blk_below H0.out hb); have q0 := cellS97_0 (blk_below H0.out hb); have p0 : w1.cell? ⟨gb, 0, none⟩ = some (.int .i64 a) := (blk_cell hbox 0).trans rfl; have p1 : w1.cell? ⟨gb, 1, none⟩ = some (.slice A1 l1.length c1) := (blk_cell hbox 1).trans rfl; have p2 : w1.cell? ⟨gb, 2, none⟩ = some (.slice A2 l2.length c2) := (blk_cell hbox 2).trans rfl; clear HB; have HB := n0_; have H1 := n1_; clear hb hbox hg n0_ n1_))
  go_still (by rfl)
  go_wp2_with fail
  refine (copied_ok a A1 c1 l1 A2 c2 l2 _ (Kd.C_below HR1.out (below_drew1 HB.out)) hc1 (Kd.C_below HR2.out (below_drew1 HB.out)) hc2 hl1 hl2 HL3.out).mono ?_
  rintro e w3 ⟨B1, d1, B2, d2, rfl, ho1, hd1, ho2, hb⟩
  have HO1 := Aside0.mk (Kd.R_lower ho1 (below_size (below_drew1 HB.out)))
  have HBK := Aside0.mk (blk_below (blk_drew H1.out) hb)
  have HO2 := Aside0.mk (ho2.lower (below_size (below_drew1 HB.out)))
  have HBB := Aside0.mk (below_step (below_drew1 HB.out) hb)
  have HD1 := Aside0.mk hd1
  clear ho1 ho2 hd1 hb q0 p0 p1 p2
  have z0 : w3.cell? ⟨g, 0, none⟩ = some (.int .i64 f0) := (blk_cell HBK.out 0).trans rfl
  have z1 : w3.cell? ⟨g, 1, none⟩ = some (.slice A1' f1.length c1') := (blk_cell HBK.out 1).trans rfl
  have z2 : w3.cell? ⟨g, 2, none⟩ = some (.slice A2' f2.length c2') := (blk_cell HBK.out 2).trans rfl
  have y0 := blk_frozen HBK.out 0
  have y1 := blk_frozen HBK.out 1
  have y2 := blk_frozen HBK.out 2
  go_wp2
  go_ret
  have b0 := HBK.out
  have b1 := blk_put (cs' := #[.int .i64 a, .slice A1' f1.length c1', .slice A2' f2.length c2']) b0 0 (.int .i64 a) rfl
  have b2 := blk_put (cs' := #[.int .i64 a, .slice B1 l1.length d1, .slice A2' f2.length c2']) b1 1 (.slice B1 l1.length d1) rfl
  have b3 := blk_put (cs' := #[.int .i64 a, .slice B1 l1.length d1, .slice B2 l2.length d2]) b2 2 (.slice B2 l2.length d2) rfl
  refine ⟨rfl, ⟨B1, d1, B2, d2, b3, Kd.R_set (Kd.R_set (Kd.R_set HO1.out b0 (by decide) 0 _) b1 (by decide) 1 _) b2 (by decide) 2 _, HD1.out, ((HO2.out.setT b0 (by decide) (by decide) 0 _).setT b1 (by decide) (by decide) 1 _).setT b2 (by decide) (by decide) 2 _⟩, fun n h1 h2 => (((HBB.out.mono h2).setCell h1 _).setCell h1 _).setCell h1 _, fun k hk hne => ?_, fun base g' h0 h1 h2 hne hp => (((hp.below HBB.out).far b0 hne 0 _).far b1 hne 1 _).far b2 hne 2 _⟩
  rw [Below.heap_setCell _ _ _ k hne, Below.heap_setCell _ _ _ k hne, Below.heap_setCell _ _ _ k hne]
  exact HBB.out.block k hk
set_option maxHeartbeats 2000000 in
set_option maxRecDepth 100000 in
theorem config_ok {g : Nat} {f0 : Int} {f1 : List S93} {f2 : List S67} {w : World} (h : PlaneAt w g f0 f1 f2) (hl1 : f1.length ≤ 2000) (hl2 : f2.length ≤ 2000) (hl3 : ∀ x, x ∈ f2 → x.f1.length ≤ 2000) :
    Calls Tryd.prog 33 #[.pointer (some ⟨g, 0, none⟩)] w fun e w' => ∃ B1 d1 B2 d2, e = .returned (.agg #[.int .i64 f0, .slice B1 f1.length d1, .slice B2 f2.length d2]) ∧ Kd.C k93 w' B1 f1.length f1 ∧ f1.length ≤ d1 ∧ Kd.C k67 w' B2 f2.length f2 ∧ f2.length ≤ d2 ∧ Below w.heap.size w w' := by
  obtain ⟨A1, c1, A2, c2, h0, hr1, hc1, hr2, hc2⟩ := h
  have HB := Aside0.mk (Below.refl w.heap.size w)
  have H0 := Aside0.mk h0
  have HR1 := Aside0.mk hr1
  have HR2 := Aside0.mk hr2
  have HL3 := Aside0.mk hl3
  have hu97 := Tryd.underlying97
  have hu55 := Tryd.underlying55
  clear h0 hr1 hr2 hl3
  go_enter Tryd.func33, Tryd.ntmps33
  go_wp2_with (first | ((with_reducible refine gate_dst (N := 2) rfl ?_); refine box_event ?hg (N := 2) ?hd (cs := #[.int .i64 0, .slice none 0 0, .slice none 0 0]) (t := 55) ?hr ?_; (case hd => rfl); (case hg => rfl); (case hr => first | (go_simp; done) | (go_simp; rfl)); intro gb hg w1 hbox hb; have n0_ := Aside0.mk (below_step HB.out hb); have BK2 := Aside0.mk hbox; have GE2 := Aside0.mk (Nat.le_of_eq hg.symm); have q0 : w1.cell? ⟨g, 0, none⟩ = some (.int .i64 f0) := (blk_cell (blk_below H0.out hb) 0).trans rfl; have q1 : w1.cell? ⟨g, 1, none⟩ = some (.slice A1 f1.length c1) := (blk_cell (blk_below H0.out hb) 1).trans rfl; have q2 : w1.cell? ⟨g, 2, none⟩ = some (.slice A2 f2.length c2) := (blk_cell (blk_below H0.out hb) 2).trans rfl; clear HB; have HB := n0_; clear hb hbox hg n0_) | fail)
  refine (copied_ok f0 A1 c1 f1 A2 c2 f2 _ (Kd.C_below HR1.out HB.out) hc1 (Kd.C_below HR2.out HB.out) hc2 hl1 hl2 HL3.out).mono ?_
  rintro e w3 ⟨B1, d1, B2, d2, rfl, ho1, hd1, ho2, hb⟩
  have HO1 := Aside0.mk (Kd.R_lower ho1 (below_size HB.out))
  have HBK := Aside0.mk (blk_below BK2.out hb)
  have HO2 := Aside0.mk (ho2.lower (below_size HB.out))
  have HBB := Aside0.mk (below_step HB.out hb)
  have HD1 := Aside0.mk hd1
  clear ho1 ho2 hd1 hb q0 q1 q2
  have z0 : w3.cell? ⟨gb, 0, none⟩ = some (.int .i64 0) := (blk_cell HBK.out 0).trans rfl
  have z1 : w3.cell? ⟨gb, 1, none⟩ = some (.slice none 0 0) := (blk_cell HBK.out 1).trans rfl
  have z2 : w3.cell? ⟨gb, 2, none⟩ = some (.slice none 0 0) := (blk_cell HBK.out 2).trans rfl
  have y0 := blk_frozen HBK.out 0
  have y1 := blk_frozen HBK.out 1
  have y2 := blk_frozen HBK.out 2
  go_wp2
  refine bodyPost_ret (results_single rfl (Vals.cell gb 55 #[.int .i64 f0, .slice B1 f1.length d1, .slice B2 f2.length d2] (0, 0) _ rfl (blk_put (blk_put (blk_put HBK.out 0 _ rfl) 1 _ rfl) 2 _ rfl) Tryd.underlying55 rfl (by kernel_rfl) Vals.nil)) rfl ?_
  have b0 := HBK.out
  have b1 := blk_put (cs' := #[.int .i64 f0, .slice none 0 0, .slice none 0 0]) b0 0 (.int .i64 f0) rfl
  have b2 := blk_put (cs' := #[.int .i64 f0, .slice B1 f1.length d1, .slice none 0 0]) b1 1 (.slice B1 f1.length d1) rfl
  obtain ⟨A, c, he, _, hr⟩ := Kd.R_reads (Kd.R_set (Kd.R_set (Kd.R_set HO1.out b0 (by decide) 0 (.int .i64 f0)) b1 (by decide) 1 (.slice B1 f1.length d1)) b2 (by decide) 2 (.slice B2 f2.length d2))
  injection he with e1 e2 e3
  subst e1
  exact ⟨B1, d1, B2, d2, rfl, hr, HD1.out, (((HO2.out.setT b0 (by decide) (by decide) 0 _).setT b1 (by decide) (by decide) 1 _).setT b2 (by decide) (by decide) 2 _).C, HO2.out.1, below_set (below_set (below_set HBB.out GE2.out) GE2.out) GE2.out⟩
end Go.Proofs.YtabkdmfnafeaeaaDoor.S
end
section
/-! take's closure, slices.IndexFunc over it. -/
namespace Go.Proofs.YtabkdmfnafeaeaaDoor.S
open Go.RowKit Go.Proofs.YtabkdmfnafeaeaaDoorW.PrintWords Go.Proofs.YtabkdmfnafeaeaaDoorW.PrintLast Go.Proofs.YtabkdmfnafeaeaaDoorW.PrintMore
set_option linter.unusedVariables false
set_option linter.unusedSimpArgs false
set_option maxHeartbeats 2000000 in
set_option maxRecDepth 100000 in
theorem match_ok (nm pool : ByteArray) (A : Option Addr) (n c ga gc : Nat) (w : World) (h1 : w.cell? ⟨gc, 0, none⟩ = some (.pointer (some ⟨ga, 0, none⟩))) (h2 : w.cell? ⟨ga, 10, none⟩ = some (.string pool)) (hc : gc < w.heap.size) (ha : ga < w.heap.size) :
    Calls Tryd.prog 91 #[.agg #[.string nm, .slice A n c], .pointer (some ⟨gc, 0, none⟩)] w fun e w' => e = .returned (.bool (nm.toList == pool.toList)) ∧ Below w.heap.size w w' := by
  have HB := Aside0.mk (Below.refl w.heap.size w)
  go_enter Tryd.func91, Tryd.ntmps91
  go_wp2_with (first | ((with_reducible refine gate_dst (N := 2) rfl ?_); refine box_event ?hg (N := 2) ?hd (cs := #[.string nm, .slice A n c]) (t := 67) ?hr ?_; (case hd => rfl); (case hg => rfl); (case hr => first | (go_simp; done) | (go_simp; rfl)); intro gb hg w1 hbox hb; have n0_ := Aside0.mk (below_step HB.out hb); have q1 := (hb.cell (p := ⟨gc, 0, none⟩) hc).trans h1; have q2 := (hb.cell (p := ⟨ga, 10, none⟩) ha).trans h2; have p0 : w1.cell? ⟨gb, 0, none⟩ = some (.string nm) := (blk_cell hbox 0).trans rfl; clear HB; have HB := n0_; clear hb hbox hg n0_))
  go_still (by rfl)
  go_wp2

  go_ret
  exact ⟨rfl, below_drew1 HB.out⟩
/-- The place of the first pool of a name, or -1. -/
def idxP (pool : ByteArray) : List S67 → Int → Int
  | [], _ => -1
  | x :: l, i => if x.f0.toList == pool.toList then i else idxP pool l (i + 1)
theorem idx_rd (l : List S67) (i : Nat) (hi : i < l.length) : l[i]? = some (rd_T67 l (i : Int)) := by
  unfold rd_T67
  simp [List.getD_eq_getElem?_getD, List.getElem?_eq_getElem hi]
set_option maxHeartbeats 4000000 in
set_option maxRecDepth 100000 in
theorem index_ok (pool : ByteArray) (A : Option Addr) (c ga gc : Nat) (l : List S67) (w : World) (hr : Kd.C k67 w A l.length l) (hc : l.length ≤ c) (hl : l.length ≤ 2000) (h1 : w.cell? ⟨gc, 0, none⟩ = some (.pointer (some ⟨ga, 0, none⟩))) (h2 : w.cell? ⟨ga, 10, none⟩ = some (.string pool)) (hgc : gc < w.heap.size) (hga : ga < w.heap.size) :
    Calls Tryd.prog 90 #[.slice A l.length c, .func (.func 91) #[] #[.pointer (some ⟨gc, 0, none⟩)]] w fun e w' => e = .returned (.int .i64 (idxP pool l 0)) ∧ Below w.heap.size w w' := by
  have HB := Aside0.mk (Below.refl w.heap.size w)
  have HR := Aside0.mk hr
  clear hr
  go_enter Tryd.func90, Tryd.ntmps90
  go_wp2
  go_loopg [8] (l.length + 1) (fun n v8 wr => ∃ i : Nat, v8 = .int .i64 (i : Int) ∧ Aside0 (i + n = l.length + 1 ∧ i ≤ l.length) ∧ Aside0 (idxP pool (l.drop i) i = idxP pool l 0) ∧ Aside0 (Below w.heap.size w wr))
  case atStart => exact ⟨0, rfl, ⟨by omega, by omega⟩, ⟨rfl⟩, ⟨HB.out⟩⟩
  case round =>
    clear HB
    obtain ⟨i, rfl, HN, HI, HB⟩ := hrel
    rcases Nat.lt_or_ge i l.length with hi | hi
    · have c1 : decide ((i : Int) < (l.length : Int)) = true := decide_eq_true (by omega)
      obtain ⟨ad, A1, cc, rfl, x0, x1, _, _⟩ := at_T67 (Kd.C_below HR.out HB.out) i (by omega) (by omega)
      simp only [Int.toNat_natCast] at x0 x1
      have HX := Aside0.mk (show l[i]? = some (rd_T67 l (i : Int)) from idx_rd l i hi)
      go_wp2_with fail
      refine (match_ok _ pool _ _ _ ga gc wr ((HB.out.cell (p := ⟨gc, 0, none⟩) hgc).trans h1) ((HB.out.cell (p := ⟨ga, 10, none⟩) hga).trans h2) (Nat.lt_of_lt_of_le hgc HB.out.size) (Nat.lt_of_lt_of_le hga HB.out.size)).mono ?_
      rintro e w4 ⟨rfl, hb⟩
      have n0_ := Aside0.mk (below_step HB.out hb)
      clear HB hb x0 x1
      have HB := n0_
      clear n0_
      have hdr : l.drop i = rd_T67 l (i : Int) :: l.drop (i + 1) := by
        rw [List.drop_eq_getElem_cons hi]
        have h_ := HX.out
        rw [List.getElem?_eq_getElem hi] at h_
        rw [Option.some.inj h_]
      have hI := HI.out
      rw [hdr] at hI
      simp only [idxP] at hI
      by_cases hq : (rd_T67 l (i : Int)).f0.toList == pool.toList
      · rw [if_pos hq] at hI
        have HQ := Aside0.mk hI
        rw [hq]
        clear hI hdr
        go_wp2
        go_ret
        exact ⟨by rw [← HQ.out]; rfl, HB.out⟩
      · rw [if_neg hq] at hI
        have HQ := Aside0.mk hI
        rw [Bool.not_eq_true] at hq
        rw [hq]
        clear hI hdr
        have hi9 : i < 2000 := by omega
        go_wp2
        go_roundg (l.length - i)
        case measure => have := HN.out; omega
        case rel => exact ⟨i + 1, by first | rfl | (simp; done) | (simp [*]; done), ⟨by have := HN.out; omega⟩, ⟨HQ.out⟩, ⟨HB.out⟩⟩
    · have c1 : decide ((i : Int) < (l.length : Int)) = false := decide_eq_false (by omega)
      have hI := HI.out
      rw [List.drop_of_length_le hi] at hI
      simp only [idxP] at hI
      have HQ := Aside0.mk hI
      clear hI
      go_wp2
      go_ret
      exact ⟨by rw [← HQ.out]; rfl, HB.out⟩
end Go.Proofs.YtabkdmfnafeaeaaDoor.S
end
section
/-! What is asked of a plane, and take. -/
namespace Go.Proofs.YtabkdmfnafeaeaaDoor.S
open Go.RowKit Go.Proofs.YtabkdmfnafeaeaaDoorW.PrintWords Go.Proofs.YtabkdmfnafeaeaaDoorW.PrintLast Go.Proofs.YtabkdmfnafeaeaaDoorW.PrintMore
set_option linter.unusedVariables false
set_option linter.unusedSimpArgs false
/-- What lies at an asked: the plane's block, the bytes, the draw, the head, the reply. -/
def askedCells (g : Nat) (b : Value) (draw : Nat) (m p q h : ByteArray) (fs : Value) (st ver : Int) (pool addr : ByteArray) : Array Value :=
  #[.pointer (some ⟨g, 0, none⟩), b, .float .f64 draw, .string m, .string p, .string q, .string h, fs, .int .i64 st, .int .i64 ver, .string pool, .string addr]
def AskedAt (W : World) (ga g : Nat) (b : Value) (draw : Nat) (m p q h : ByteArray) (fs : Value) (st ver : Int) (pool addr : ByteArray) : Prop :=
  W.heap[ga]? = some (.cells (askedCells g b draw m p q h fs st ver pool addr) 102 (0, 0))
/-- All blocks that were there are as they were, but one. -/
def Only (ga : Nat) (w w' : World) : Prop := w.heap.size ≤ w'.heap.size ∧ ∀ k, k < w.heap.size → k ≠ ga → w'.heap[k]? = w.heap[k]?
theorem Only.refl (ga : Nat) (w : World) : Only ga w w := ⟨Nat.le_refl _, fun _ _ _ => rfl⟩
theorem Only.below {ga : Nat} {w w1 w2 : World} (h : Only ga w w1) (hb : Below w1.heap.size w1 w2) : Only ga w w2 :=
  ⟨Nat.le_trans h.1 hb.size, fun k hk hn => (hb.block k (Nat.lt_of_lt_of_le hk h.1)).trans (h.2 k hk hn)⟩
theorem Only.trans {ga : Nat} {w w1 w2 : World} (h : Only ga w w1) (h2 : Only ga w1 w2) : Only ga w w2 :=
  ⟨Nat.le_trans h.1 h2.1, fun k hk hn => (h2.2 k (Nat.lt_of_lt_of_le hk h.1) hn).trans (h.2 k hk hn)⟩
theorem Only.set {ga : Nat} {w w1 : World} (h : Only ga w w1) (j : Nat) (v : Value) : Only ga w (w1.setCell ⟨ga, j, none⟩ v) :=
  ⟨Nat.le_trans h.1 ((Below.refl 0 w1).setCell (p := ⟨ga, j, none⟩) (Nat.zero_le _) v).size, fun k hk hn => (Below.heap_setCell w1 ⟨ga, j, none⟩ v k hn).trans (h.2 k hk hn)⟩
theorem Only.setNew {ga : Nat} {w w1 : World} (h : Only ga w w1) {gr : Nat} (hg : w.heap.size ≤ gr) (j : Nat) (v : Value) : Only ga w (w1.setCell ⟨gr, j, none⟩ v) :=
  ⟨Nat.le_trans h.1 ((Below.refl 0 w1).setCell (p := ⟨gr, j, none⟩) (Nat.zero_le _) v).size, fun k hk hn => (Below.heap_setCell w1 ⟨gr, j, none⟩ v k (Nat.ne_of_lt (Nat.lt_of_lt_of_le hk hg))).trans (h.2 k hk hn)⟩
theorem Only.drew {ga : Nat} {w w1 : World} (h : Only ga w w1) : Only ga w w1.drew := h
set_option maxHeartbeats 4000000 in
set_option maxRecDepth 100000 in
theorem take_none {g : Nat} {f0 : Int} {f1 : List S93} {f2 : List S67} {w0 w : World} (hp : PlaneAt w0 g f0 f1 f2) (hB : Below w0.heap.size w0 w) {ga : Nat} (hga : w0.heap.size ≤ ga) {b : Value} {draw : Nat} {m p q h : ByteArray} {fs : Value} {st ver : Int} {pool addr : ByteArray}
    (hA : AskedAt w ga g b draw m p q h fs st ver pool addr) (hl2 : f2.length ≤ 2000) (hi : idxP pool f2 0 = -1) :
    Calls Tryd.prog 59 #[.pointer (some ⟨ga, 0, none⟩)] w fun e w' => e = .returned (.bool false) ∧ AskedAt w' ga g b draw m p q h fs 503 ver pool addr ∧ Below w0.heap.size w0 w' ∧ Only ga w w' := by
  obtain ⟨A1, c1, A2, c2, h0, _, _, hr2, hc2⟩ := hp
  have HB := Aside0.mk (Below.refl w.heap.size w)
  have HB0 := Aside0.mk hB
  have H0 := Aside0.mk h0
  have HA := Aside0.mk hA
  have HR2 := Aside0.mk hr2
  clear h0 hr2 hA hB
  have hmf : ∀ (fn : Fn) (first cap : Array Value) (w : World), (Instr.makeFunc fn first cap).run Tryd.prog w = .ok (.func fn first cap) w := fun _ _ _ _ => rfl
  go_enter Tryd.func59, Tryd.ntmps59
  go_wp2_with (first | ((with_reducible refine gate_dst (N := 1) rfl ?_); refine box_event ?hg (N := 1) ?hd (cs := #[.pointer (some ⟨ga, 0, none⟩)]) (t := 99) ?hr ?_; (case hd => rfl); (case hg => rfl); (case hr => first | (go_simp; done) | (go_simp; rfl)); intro gc hg w1 hbox hb; have n0_ := Aside0.mk (below_step HB.out hb); have HC := Aside0.mk hbox; have HA1 := Aside0.mk (blk_below HA.out hb); have k0 : w1.cell? ⟨gc, 0, none⟩ = some (.pointer (some ⟨ga, 0, none⟩)) := (blk_cell hbox 0).trans rfl; have k1 : w1.cell? ⟨ga, 8, none⟩ = some (.int .i64 st) := (blk_cell (blk_below HA.out hb) 8).trans rfl; have k2 := blk_frozen (blk_below HA.out hb) 8; have k3 : w1.cell? ⟨ga, 0, none⟩ = some (.pointer (some ⟨g, 0, none⟩)) := (blk_cell (blk_below HA.out hb) 0).trans rfl; have k4 : w1.cell? ⟨g, 2, none⟩ = some (.slice A2 f2.length c2) := (blk_cell (blk_below (blk_below H0.out HB0.out) hb) 2).trans rfl; have hn1 : gc ≠ ga := Nat.ne_of_gt (by rw [hg]; exact blk_lt HA.out); have hn2 : g ≠ ga := Nat.ne_of_lt (Nat.lt_of_lt_of_le (blk_lt H0.out) hga); clear HB; have HB := n0_; clear hb hbox hg n0_) | fail)
  have HA2 := Aside0.mk (blk_put (cs' := askedCells g b draw m p q h fs 503 ver pool addr) HA1.out 8 (.int .i64 503) rfl)
  have HC2 := Aside0.mk (blk_far HC.out (p := ⟨ga, 8, none⟩) hn1 (.int .i64 503))
  have HB2 := Aside0.mk ((below_step HB0.out HB.out).setCell (show w0.heap.size ≤ (⟨ga, 8, none⟩ : Addr).block from hga) (.int .i64 503))
  have HO2 := Aside0.mk (((Only.refl ga w).below HB.out).set 8 (.int .i64 503))
  clear k0 k1 k2 k3 k4 HB HC HA1 HA HB0 hn1 hn2
  generalize w1.setCell ⟨ga, 8, none⟩ (.int .i64 503) = w2 at HA2 HC2 HB2 HO2 ⊢
  refine (index_ok pool A2 c2 ga gc f2 w2 (Kd.C_below HR2.out HB2.out) hc2 hl2 ((blk_cell HC2.out 0).trans rfl) ((blk_cell HA2.out 10).trans rfl) (blk_lt HC2.out) (blk_lt HA2.out)).mono ?_
  rintro e w4 ⟨rfl, hb⟩
  have HA4 := Aside0.mk (blk_below HA2.out hb)
  have HB4 := Aside0.mk (below_step HB2.out hb)
  have HO4 := Aside0.mk (HO2.out.below hb)
  clear hb HA2 HC2 HB2 HO2
  rw [hi]
  go_wp2
  go_ret
  exact ⟨rfl, HA4.out, HB4.out, HO4.out⟩
end Go.Proofs.YtabkdmfnafeaeaaDoor.S
end
section
/-! asked.route. -/
namespace Go.Proofs.YtabkdmfnafeaeaaDoor.S
open Go.RowKit Go.Proofs.YtabkdmfnafeaeaaDoorW.PrintWords Go.Proofs.YtabkdmfnafeaeaaDoorW.PrintLast Go.Proofs.YtabkdmfnafeaeaaDoorW.PrintMore
set_option linter.unusedVariables false
set_option linter.unusedSimpArgs false
noncomputable def route_T1 : Bool × List (List Nat × List Nat) := rtab .any (opsOf Tryd.f58 1)
theorem route_tab1 : rtab .any (opsOf Tryd.f58 1) = route_T1 := rfl
noncomputable def route_T2 : Bool × List (List Nat × List Nat) := rtab .any (opsOf Tryd.f58 2)
theorem route_tab2 : rtab .any (opsOf Tryd.f58 2) = route_T2 := rfl
set_option maxHeartbeats 4000000 in
set_option maxRecDepth 100000 in
theorem route_ok {g : Nat} {f0 : Int} {f1 : List S93} {f2 : List S67} {w0 w : World} (hp : PlaneAt w0 g f0 f1 f2) (hB : Below w0.heap.size w0 w) {ga : Nat} (hga : w0.heap.size ≤ ga) {b : Value} {draw : Nat} {m p q h : ByteArray} {fs : Value} {st ver : Int} {pool addr : ByteArray}
    (hA : AskedAt w ga g b draw m p q h fs st ver pool addr) (k : Nat) {r1 r2 r3 : ByteArray} {r4 : Bool} (hf : plane_Find.f k f0 f1 f2 h p = some (r1, r2, r3, r4)) :
    Calls Tryd.prog 58 #[.pointer (some ⟨ga, 0, none⟩)] w fun e w' => e = .returned (.bool r4) ∧ AskedAt w' ga g b draw m p q h fs 404 ver r3 addr ∧ Below w0.heap.size w0 w' ∧ Only ga w w' := by
  obtain ⟨A1, c1, A2, c2, h0, hr1, hc1, hr2, hc2⟩ := hp
  have HB0 := Aside0.mk hB
  have H0 := Aside0.mk h0
  have HA := Aside0.mk hA
  have HR1 := Aside0.mk hr1
  have HR2 := Aside0.mk hr2
  have HO := Aside0.mk (Only.refl ga w)
  have HF := Aside0.mk hf
  clear h0 hr1 hr2 hA hB hf
  unfold AskedAt at HA
  have hu102 := Tryd.underlying102
  have hu55 := Tryd.underlying55
  have hu93 := Tryd.underlying93
  have hu62 := Tryd.underlying62
  have hu25 := Tryd.underlying25
  have hu97 := Tryd.underlying97
  go_enter Tryd.func58, Tryd.ntmps58
  go_wp2
  refine start_ (n := 23) (S := fun w' => w'.cell? ⟨ga, 0, none⟩ = some (.pointer (some ⟨g, 0, none⟩)) ∧ w'.cell? ⟨g, 0, none⟩ = some (.int .i64 f0) ∧ w'.cell? ⟨g, 1, none⟩ = some (.slice A1 f1.length c1) ∧ w'.cell? ⟨g, 2, none⟩ = some (.slice A2 f2.length c2) ∧ w'.cell? ⟨ga, 6, none⟩ = some (.string h) ∧ w'.cell? ⟨ga, 4, none⟩ = some (.string p)) (ds := [21]) #[false, false, false, false, false, false, false, false, false, false, false, false, false, false, false, false, false, false, false, false, false, false, false] (by kernel_rfl) rfl rfl ⟨(blk_cell HA.out 0).trans rfl, (blk_cell (blk_below H0.out HB0.out) 0).trans rfl, (blk_cell (blk_below H0.out HB0.out) 1).trans rfl, (blk_cell (blk_below H0.out HB0.out) 2).trans rfl, (blk_cell HA.out 6).trans rfl, (blk_cell HA.out 4).trans rfl⟩ (fun hHeld => ?_)
  refine with_tab (T := route_T1) route_tab1 (fun HT_ => ?_)
  have m0_ := Aside0.mk (blk_drew HA.out)
  have m1_ := Aside0.mk (HO.out.drew)
  have m2_ := Aside0.mk (below_drew1 HB0.out)
  clear HA HO HB0
  have HA := m0_
  have HO := m1_
  have HB0 := m2_
  clear m0_ m1_ m2_
  generalize w.drew = w3 at HA HB0 HO hHeld ⊢
  refine pure_ (i := 0) (N := some 6) (v := ?_) (a' := ?_) #[true, false, false, false, false, false, false, false, false, false, false, false, false, false, false, false, false, false, false, false, false, false, false] rfl rfl (any_of HT_.out (by kernel_rfl)) (fun _ _ _ h => h) (Or.inl ⟨by rfl, ?_⟩) ?_ ?_
  rotate_left
  · intro w'
    go_simp
    with_reducible rfl
  rotate_left
  · simp only [Act.put, List.setIfInBounds_toArray, List.set_cons_zero, List.set_cons_succ, i64_w, i32_w]
    rfl
  refine pure_ (i := 1) (N := some 7) (v := ?_) (a' := ?_) #[true, true, false, false, false, false, false, false, false, false, false, false, false, false, false, false, false, false, false, false, false, false, false] rfl rfl (any_of HT_.out (by kernel_rfl)) (fun _ _ _ h => h) (Or.inl ⟨by rfl, ?_⟩) ?_ ?_
  rotate_left
  · intro w'
    go_simp
    with_reducible rfl
  rotate_left
  · simp only [Act.put, List.setIfInBounds_toArray, List.set_cons_zero, List.set_cons_succ, i64_w, i32_w]
    rfl
  refine pure_ (i := 2) (N := some 8) (v := ?_) (a' := ?_) #[true, true, true, false, false, false, false, false, false, false, false, false, false, false, false, false, false, false, false, false, false, false, false] rfl rfl (any_of HT_.out (by kernel_rfl)) (fun _ _ _ h => h) (Or.inl ⟨by rfl, ?_⟩) ?_ ?_
  rotate_left
  · intro w'
    go_simp
    with_reducible rfl
  rotate_left
  · simp only [Act.put, List.setIfInBounds_toArray, List.set_cons_zero, List.set_cons_succ, i64_w, i32_w]
    rfl
  refine take_ (i := 3) (N := some 9) (v := ?_) (a' := ?_) #[true, true, true, true, false, false, false, false, false, false, false, false, false, false, false, false, false, false, false, false, false, false, false] rfl rfl (take_of HT_.out (by kernel_rfl)) (fun _ _ _ h => h) (Or.inl ⟨by rfl, ?_⟩) hHeld ?_ ?_
  rotate_left
  · rintro w' ⟨s0, s1, s2, s3, s4, s5⟩
    go_simp
    with_reducible rfl
  rotate_left
  · simp only [Act.put, List.setIfInBounds_toArray, List.set_cons_zero, List.set_cons_succ, i64_w, i32_w]
    rfl
  refine pure_ (i := 4) (N := some 10) (v := ?_) (a' := ?_) #[true, true, true, true, true, false, false, false, false, false, false, false, false, false, false, false, false, false, false, false, false, false, false] rfl rfl (any_of HT_.out (by kernel_rfl)) (fun _ _ _ h => h) (Or.inl ⟨by rfl, ?_⟩) ?_ ?_
  rotate_left
  · intro w'
    go_simp
    with_reducible rfl
  rotate_left
  · simp only [Act.put, List.setIfInBounds_toArray, List.set_cons_zero, List.set_cons_succ, i64_w, i32_w]
    rfl
  refine take_ (i := 5) (N := some 11) (v := ?_) (a' := ?_) #[true, true, true, true, true, true, false, false, false, false, false, false, false, false, false, false, false, false, false, false, false, false, false] rfl rfl (take_of HT_.out (by kernel_rfl)) (fun _ _ _ h => h) (Or.inl ⟨by rfl, ?_⟩) hHeld ?_ ?_
  rotate_left
  · rintro w' ⟨s0, s1, s2, s3, s4, s5⟩
    go_simp
    with_reducible rfl
  rotate_left
  · simp only [Act.put, List.setIfInBounds_toArray, List.set_cons_zero, List.set_cons_succ, i64_w, i32_w]
    rfl
  refine pure_ (i := 6) (N := some 12) (v := ?_) (a' := ?_) #[true, true, true, true, true, true, true, false, false, false, false, false, false, false, false, false, false, false, false, false, false, false, false] rfl rfl (any_of HT_.out (by kernel_rfl)) (fun _ _ _ h => h) (Or.inl ⟨by rfl, ?_⟩) ?_ ?_
  rotate_left
  · intro w'
    go_simp
    with_reducible rfl
  rotate_left
  · simp only [Act.put, List.setIfInBounds_toArray, List.set_cons_zero, List.set_cons_succ, i64_w, i32_w]
    rfl
  refine pure_ (i := 7) (N := some 13) (v := ?_) (a' := ?_) #[true, true, true, true, true, true, true, true, false, false, false, false, false, false, false, false, false, false, false, false, false, false, false] rfl rfl (any_of HT_.out (by kernel_rfl)) (fun _ _ _ h => h) (Or.inl ⟨by rfl, ?_⟩) ?_ ?_
  rotate_left
  · intro w'
    go_simp
    with_reducible rfl
  rotate_left
  · simp only [Act.put, List.setIfInBounds_toArray, List.set_cons_zero, List.set_cons_succ, i64_w, i32_w]
    rfl
  refine pure_ (i := 8) (N := some 14) (v := ?_) (a' := ?_) #[true, true, true, true, true, true, true, true, true, false, false, false, false, false, false, false, false, false, false, false, false, false, false] rfl rfl (any_of HT_.out (by kernel_rfl)) (fun _ _ _ h => h) (Or.inl ⟨by rfl, ?_⟩) ?_ ?_
  rotate_left
  · intro w'
    go_simp
    with_reducible rfl
  rotate_left
  · simp only [Act.put, List.setIfInBounds_toArray, List.set_cons_zero, List.set_cons_succ, i64_w, i32_w]
    rfl
  refine pure_ (i := 9) (N := some 15) (v := ?_) (a' := ?_) #[true, true, true, true, true, true, true, true, true, true, false, false, false, false, false, false, false, false, false, false, false, false, false] rfl rfl (any_of HT_.out (by kernel_rfl)) (fun _ _ _ h => h) (Or.inl ⟨by rfl, ?_⟩) ?_ ?_
  rotate_left
  · intro w'
    go_simp
    with_reducible rfl
  rotate_left
  · simp only [Act.put, List.setIfInBounds_toArray, List.set_cons_zero, List.set_cons_succ, i64_w, i32_w]
    rfl
  refine take_ (i := 10) (N := some 16) (v := ?_) (a' := ?_) #[true, true, true, true, true, true, true, true, true, true, true, false, false, false, false, false, false, false, false, false, false, false, false] rfl rfl (take_of HT_.out (by kernel_rfl)) (fun _ _ _ h => h) (Or.inl ⟨by rfl, ?_⟩) hHeld ?_ ?_
  rotate_left
  · rintro w' ⟨s0, s1, s2, s3, s4, s5⟩
    go_simp
    with_reducible rfl
  rotate_left
  · simp only [Act.put, List.setIfInBounds_toArray, List.set_cons_zero, List.set_cons_succ, i64_w, i32_w]
    rfl
  refine pure_ (i := 11) (N := some 17) (v := ?_) (a' := ?_) #[true, true, true, true, true, true, true, true, true, true, true, true, false, false, false, false, false, false, false, false, false, false, false] rfl rfl (any_of HT_.out (by kernel_rfl)) (fun _ _ _ h => h) (Or.inl ⟨by rfl, ?_⟩) ?_ ?_
  rotate_left
  · intro w'
    go_simp
    with_reducible rfl
  rotate_left
  · simp only [Act.put, List.setIfInBounds_toArray, List.set_cons_zero, List.set_cons_succ, i64_w, i32_w]
    rfl
  refine pure_ (i := 12) (N := some 18) (v := ?_) (a' := ?_) #[true, true, true, true, true, true, true, true, true, true, true, true, true, false, false, false, false, false, false, false, false, false, false] rfl rfl (any_of HT_.out (by kernel_rfl)) (fun _ _ _ h => h) (Or.inl ⟨by rfl, ?_⟩) ?_ ?_
  rotate_left
  · intro w'
    go_simp
    with_reducible rfl
  rotate_left
  · simp only [Act.put, List.setIfInBounds_toArray, List.set_cons_zero, List.set_cons_succ, i64_w, i32_w]
    rfl
  refine pure_ (i := 13) (N := some 19) (v := ?_) (a' := ?_) #[true, true, true, true, true, true, true, true, true, true, true, true, true, true, false, false, false, false, false, false, false, false, false] rfl rfl (any_of HT_.out (by kernel_rfl)) (fun _ _ _ h => h) (Or.inl ⟨by rfl, ?_⟩) ?_ ?_
  rotate_left
  · intro w'
    go_simp
    with_reducible rfl
  rotate_left
  · simp only [Act.put, List.setIfInBounds_toArray, List.set_cons_zero, List.set_cons_succ, i64_w, i32_w]
    rfl
  refine pure_ (i := 14) (N := some 20) (v := ?_) (a' := ?_) #[true, true, true, true, true, true, true, true, true, true, true, true, true, true, true, false, false, false, false, false, false, false, false] rfl rfl (any_of HT_.out (by kernel_rfl)) (fun _ _ _ h => h) (Or.inl ⟨by rfl, ?_⟩) ?_ ?_
  rotate_left
  · intro w'
    go_simp
    with_reducible rfl
  rotate_left
  · simp only [Act.put, List.setIfInBounds_toArray, List.set_cons_zero, List.set_cons_succ, i64_w, i32_w]
    rfl
  refine take_ (i := 15) (N := some 21) (v := ?_) (a' := ?_) #[true, true, true, true, true, true, true, true, true, true, true, true, true, true, true, true, false, false, false, false, false, false, false] rfl rfl (take_of HT_.out (by kernel_rfl)) (fun _ _ _ h => h) (Or.inl ⟨by rfl, ?_⟩) hHeld ?_ ?_
  rotate_left
  · rintro w' ⟨s0, s1, s2, s3, s4, s5⟩
    go_simp
    with_reducible rfl
  rotate_left
  · simp only [Act.put, List.setIfInBounds_toArray, List.set_cons_zero, List.set_cons_succ, i64_w, i32_w]
    rfl
  refine two_ (i := 16) (j := 20) (Ni := some 22) (Nj := some 3) #[true, true, true, true, true, true, true, true, true, true, true, true, true, true, true, true, true, false, false, false, false, false, false] #[true, true, true, true, true, true, true, true, true, true, true, true, true, true, true, true, false, false, false, false, true, false, false] rfl rfl rfl rfl (two_of HT_.out (by kernel_rfl)) (by decide) (by decide) (fun K hK => ?_) (fun K hK => ?_)
  · skip
    refine goes_ Tryd.func55 (by kernel_rfl) rfl #[.agg #[.int .i64 f0, .slice A1 f1.length c1, .slice A2 f2.length c2], .string h, .string p] (by rfl) rfl rfl (by (try simp only [List.map_toArray, List.map_cons, List.map_nil]); first | done | rfl) ?_
    refine (plane_Find.calls k f0 A1 c1 f1 A2 c2 f2 h p r1 r2 r3 r4 w3 (Kd.C_below HR1.out HB0.out) hc1 (Kd.C_below HR2.out HB0.out) hc2 HF.out).mono ?_
    rintro e w4 ⟨rfl, hb⟩
    refine ⟨_, rfl, ?_⟩
    have m0_ := Aside0.mk (blk_below HA.out hb)
    have m1_ := Aside0.mk (HO.out.below hb)
    have m2_ := Aside0.mk (below_step HB0.out hb)
    clear HA HO HB0
    have HA := m0_
    have HO := m1_
    have HB0 := m2_
    clear m0_ m1_ m2_
    clear hb
    refine hK.out _ _ ⟨(blk_cell HA.out 0).trans rfl, (blk_cell (blk_below H0.out HB0.out) 0).trans rfl, (blk_cell (blk_below H0.out HB0.out) 1).trans rfl, (blk_cell (blk_below H0.out HB0.out) 2).trans rfl, (blk_cell HA.out 6).trans rfl, (blk_cell HA.out 4).trans rfl⟩ (fun hHeld => ?_)
    clear hK K
    refine norm_ (a' := ?_) ?_ ?_
    rotate_left
    · show Act.put _ (some 22) _ = _
      simp only [Act.put, List.setIfInBounds_toArray, List.set_cons_zero, List.set_cons_succ, i64_w, i32_w]
      rfl
    refine pure_ (i := 17) (N := some 5) (v := ?_) (a' := ?_) #[true, true, true, true, true, true, true, true, true, true, true, true, true, true, true, true, true, true, false, false, false, false, false] rfl rfl (any_of HT_.out (by kernel_rfl)) (fun _ _ _ h => h) (Or.inl ⟨by rfl, ?_⟩) ?_ ?_
    rotate_left
    · intro w'
      go_simp
      with_reducible rfl
    rotate_left
    · simp only [Act.put, List.setIfInBounds_toArray, List.set_cons_zero, List.set_cons_succ, i64_w, i32_w]
      rfl
    refine pure_ (i := 18) (N := some 23) (v := ?_) (a' := ?_) #[true, true, true, true, true, true, true, true, true, true, true, true, true, true, true, true, true, true, true, false, false, false, false] rfl rfl (any_of HT_.out (by kernel_rfl)) (fun _ _ _ h => h) (Or.inl ⟨by rfl, ?_⟩) ?_ ?_
    rotate_left
    · intro w'
      go_simp
      with_reducible rfl
    rotate_left
    · simp only [Act.put, List.setIfInBounds_toArray, List.set_cons_zero, List.set_cons_succ, i64_w, i32_w]
      rfl
    refine pure_ (i := 19) (N := some 24) (v := ?_) (a' := ?_) #[true, true, true, true, true, true, true, true, true, true, true, true, true, true, true, true, true, true, true, true, false, false, false] rfl rfl (any_of HT_.out (by kernel_rfl)) (fun _ _ _ h => h) (Or.inl ⟨by rfl, ?_⟩) ?_ ?_
    rotate_left
    · intro w'
      go_simp
      with_reducible rfl
    rotate_left
    · simp only [Act.put, List.setIfInBounds_toArray, List.set_cons_zero, List.set_cons_succ, i64_w, i32_w]
      rfl
    refine one_ (i := 20) (N := some 3) #[true, true, true, true, true, true, true, true, true, true, true, true, true, true, true, true, true, true, true, true, true, false, false] rfl rfl (one_of HT_.out (by kernel_rfl)) (by decide) (fun K hK => ?_)
    refine box_step ?hg (N := 3) ?hd (cs := #[.string ⟨#[]⟩, .string ⟨#[]⟩, .string ⟨#[]⟩]) (t := 93) ?hr ?_; (case hd => rfl); (case hg => rfl); (case hr => first | (go_simp; done) | (go_simp; rfl))
    intro gr hg w5 hbox hb
    have NE := Aside0.mk (by rw [hg]; exact Nat.ne_of_gt (blk_lt HA.out) : gr ≠ ga)
    have GW := Aside0.mk (by rw [hg]; exact HO.out.1 : w.heap.size ≤ gr)
    have GR := Aside0.mk (by rw [hg]; exact below_size HB0.out : w0.heap.size ≤ gr)
    have m0_ := Aside0.mk (blk_below HA.out hb)
    have m1_ := Aside0.mk (HO.out.below hb)
    have m2_ := Aside0.mk (hbox)
    have m3_ := Aside0.mk (below_step HB0.out hb)
    clear HA HO HB0
    have HA := m0_
    have HO := m1_
    have HR := m2_
    have HB0 := m3_
    clear m0_ m1_ m2_ m3_
    clear hb hbox hg
    refine hK.out _ _ ⟨(blk_cell HA.out 0).trans rfl, (blk_cell (blk_below H0.out HB0.out) 0).trans rfl, (blk_cell (blk_below H0.out HB0.out) 1).trans rfl, (blk_cell (blk_below H0.out HB0.out) 2).trans rfl, (blk_cell HA.out 6).trans rfl, (blk_cell HA.out 4).trans rfl⟩ (fun hHeld => ?_)
    clear hK K
    refine norm_ (a' := ?_) ?_ ?_
    rotate_left
    · show Act.put _ (some 3) _ = _
      simp only [Act.put, List.setIfInBounds_toArray, List.set_cons_zero, List.set_cons_succ, i64_w, i32_w]
      rfl
    refine last_ (i := 21) (N := none) #[true, true, true, true, true, true, true, true, true, true, true, true, true, true, true, true, true, true, true, true, true, true, false] rfl rfl (one_of HT_.out (by kernel_rfl)) (by decide) (fun K hK => ?_)
    have z0 := (blk_cell HR.out 0).trans (show _ = some (.string ⟨#[]⟩) from rfl)
    have y0 := blk_frozen HR.out 0
    have z1 := (blk_cell HR.out 1).trans (show _ = some (.string ⟨#[]⟩) from rfl)
    have y1 := blk_frozen HR.out 1
    have z2 := (blk_cell HR.out 2).trans (show _ = some (.string ⟨#[]⟩) from rfl)
    have y2 := blk_frozen HR.out 2
    refine skip_ (w1 := ?_) (by rfl) rfl ?_ ?_
    rotate_left
    · go_simp
      rfl
    refine hK.out _ _ ?_
    clear hK K z0 z1 z2 y0 y1 y2
    have m0_ := Aside0.mk ((blk_far (blk_far (blk_far HA.out (p := ⟨gr, 0, none⟩) NE.out.symm (.string r1)) (p := ⟨gr, 1, none⟩) NE.out.symm (.string r2)) (p := ⟨gr, 2, none⟩) NE.out.symm (.string r3)))
    have m1_ := Aside0.mk ((blk_put (cs' := #[.string r1, .string r2, .string r3]) (blk_put (cs' := #[.string r1, .string r2, .string ⟨#[]⟩]) (blk_put (cs' := #[.string r1, .string ⟨#[]⟩, .string ⟨#[]⟩]) HR.out 0 (.string r1) rfl) 1 (.string r2) rfl) 2 (.string r3) rfl))
    have m2_ := Aside0.mk ((Below.setCell (Below.setCell (Below.setCell HB0.out (show w0.heap.size ≤ (⟨gr, 0, none⟩ : Addr).block from GR.out) (.string r1)) (show w0.heap.size ≤ (⟨gr, 1, none⟩ : Addr).block from GR.out) (.string r2)) (show w0.heap.size ≤ (⟨gr, 2, none⟩ : Addr).block from GR.out) (.string r3)))
    have m3_ := Aside0.mk ((Only.setNew (Only.setNew (Only.setNew HO.out GW.out 0 (.string r1)) GW.out 1 (.string r2)) GW.out 2 (.string r3)))
    clear HA HR HB0 HO
    have HA := m0_
    have HR := m1_
    have HB0 := m2_
    have HO := m3_
    clear m0_ m1_ m2_ m3_
    refine pure_ (i := 22) (N := some 4) (v := ?_) (a' := ?_) #[true, true, true, true, true, true, true, true, true, true, true, true, true, true, true, true, true, true, true, true, true, true, true] rfl rfl (any_of HT_.out (by kernel_rfl)) (fun _ _ _ h => h) (Or.inl ⟨by rfl, ?_⟩) ?_ ?_
    rotate_left
    · intro w'
      go_simp
      with_reducible rfl
    rotate_left
    · simp only [Act.put, List.setIfInBounds_toArray, List.set_cons_zero, List.set_cons_succ, i64_w, i32_w]
      rfl
    refine done_ (done_of HT_.out (by kernel_rfl)) ?_
    clear HT_
    generalize (((w5.setCell ⟨gr, 0, none⟩ (.string r1)).setCell ⟨gr, 1, none⟩ (.string r2)).setCell ⟨gr, 2, none⟩ (.string r3)) = w6 at HA HR HB0 HO ⊢
    go_wp2
    refine start_ (n := 12) (S := fun w' => w'.cell? ⟨gr, 2, none⟩ = some (.string r3)) (ds := [11]) #[false, false, false, false, false, false, false, false, false, false, false, false] (by kernel_rfl) rfl rfl ((blk_cell HR.out 2).trans rfl) (fun hHeld => ?_)
    refine with_tab (T := route_T2) route_tab2 (fun HT_ => ?_)
    have m0_ := Aside0.mk (blk_drew HA.out)
    have m1_ := Aside0.mk (blk_drew HR.out)
    have m2_ := Aside0.mk (HO.out.drew)
    have m3_ := Aside0.mk (below_drew1 HB0.out)
    clear HA HR HO HB0
    have HA := m0_
    have HR := m1_
    have HO := m2_
    have HB0 := m3_
    clear m0_ m1_ m2_ m3_
    generalize w6.drew = w7 at HA HR HB0 HO hHeld ⊢
    refine pure_ (i := 0) (N := some 25) (v := ?_) (a' := ?_) #[true, false, false, false, false, false, false, false, false, false, false, false] rfl rfl (any_of HT_.out (by kernel_rfl)) (fun _ _ _ h => h) (Or.inl ⟨by rfl, ?_⟩) ?_ ?_
    rotate_left
    · intro w'
      go_simp
      with_reducible rfl
    rotate_left
    · simp only [Act.put, List.setIfInBounds_toArray, List.set_cons_zero, List.set_cons_succ, i64_w, i32_w]
      rfl
    refine pure_ (i := 1) (N := some 26) (v := ?_) (a' := ?_) #[true, true, false, false, false, false, false, false, false, false, false, false] rfl rfl (any_of HT_.out (by kernel_rfl)) (fun _ _ _ h => h) (Or.inl ⟨by rfl, ?_⟩) ?_ ?_
    rotate_left
    · intro w'
      go_simp
      with_reducible rfl
    rotate_left
    · simp only [Act.put, List.setIfInBounds_toArray, List.set_cons_zero, List.set_cons_succ, i64_w, i32_w]
      rfl
    refine pure_ (i := 2) (N := some 27) (v := ?_) (a' := ?_) #[true, true, true, false, false, false, false, false, false, false, false, false] rfl rfl (any_of HT_.out (by kernel_rfl)) (fun _ _ _ h => h) (Or.inl ⟨by rfl, ?_⟩) ?_ ?_
    rotate_left
    · intro w'
      go_simp
      with_reducible rfl
    rotate_left
    · simp only [Act.put, List.setIfInBounds_toArray, List.set_cons_zero, List.set_cons_succ, i64_w, i32_w]
      rfl
    refine take_ (i := 3) (N := some 28) (v := ?_) (a' := ?_) #[true, true, true, true, false, false, false, false, false, false, false, false] rfl rfl (take_of HT_.out (by kernel_rfl)) (fun _ _ _ h => h) (Or.inl ⟨by rfl, ?_⟩) hHeld ?_ ?_
    rotate_left
    · rintro w' s0
      go_simp
      with_reducible rfl
    rotate_left
    · simp only [Act.put, List.setIfInBounds_toArray, List.set_cons_zero, List.set_cons_succ, i64_w, i32_w]
      rfl
    refine pure_ (i := 4) (N := some 29) (v := ?_) (a' := ?_) #[true, true, true, true, true, false, false, false, false, false, false, false] rfl rfl (any_of HT_.out (by kernel_rfl)) (fun _ _ _ h => h) (Or.inl ⟨by rfl, ?_⟩) ?_ ?_
    rotate_left
    · intro w'
      go_simp
      with_reducible rfl
    rotate_left
    · simp only [Act.put, List.setIfInBounds_toArray, List.set_cons_zero, List.set_cons_succ, i64_w, i32_w]
      rfl
    refine pure_ (i := 5) (N := some 30) (v := ?_) (a' := ?_) #[true, true, true, true, true, true, false, false, false, false, false, false] rfl rfl (any_of HT_.out (by kernel_rfl)) (fun _ _ _ h => h) (Or.inl ⟨by rfl, ?_⟩) ?_ ?_
    rotate_left
    · intro w'
      go_simp
      with_reducible rfl
    rotate_left
    · simp only [Act.put, List.setIfInBounds_toArray, List.set_cons_zero, List.set_cons_succ, i64_w, i32_w]
      rfl
    refine pure_ (i := 6) (N := some 31) (v := ?_) (a' := ?_) #[true, true, true, true, true, true, true, false, false, false, false, false] rfl rfl (any_of HT_.out (by kernel_rfl)) (fun _ _ _ h => h) (Or.inl ⟨by rfl, ?_⟩) ?_ ?_
    rotate_left
    · intro w'
      go_simp
      with_reducible rfl
    rotate_left
    · simp only [Act.put, List.setIfInBounds_toArray, List.set_cons_zero, List.set_cons_succ, i64_w, i32_w]
      rfl
    refine one_ (i := 7) (N := none) #[true, true, true, true, true, true, true, true, false, false, false, false] rfl rfl (one_of HT_.out (by kernel_rfl)) (by decide) (fun K hK => ?_)
    have hs_ := (blk_cell HA.out 8).trans (show _ = some (.int .i64 st) from rfl)
    have hf_ := blk_frozen HA.out 8
    refine skip_ (w1 := ?_) (by rfl) rfl ?_ ?_
    rotate_left
    · go_simp
      rfl
    have m0_ := Aside0.mk (blk_put (cs' := askedCells g b draw m p q h fs 404 ver pool addr) HA.out 8 (.int .i64 404) rfl)
    have m1_ := Aside0.mk (blk_far HR.out (p := ⟨ga, 8, none⟩) NE.out (.int .i64 404))
    have m2_ := Aside0.mk (HO.out.set 8 (.int .i64 404))
    have m3_ := Aside0.mk (Below.setCell HB0.out (show w0.heap.size ≤ (⟨ga, 8, none⟩ : Addr).block from hga) (.int .i64 404))
    clear HA HR HO HB0
    have HA := m0_
    have HR := m1_
    have HO := m2_
    have HB0 := m3_
    clear m0_ m1_ m2_ m3_
    refine hK.out _ _ ((blk_cell HR.out 2).trans rfl) (fun hHeld => ?_)
    clear hK K hs_ hf_
    generalize w7.setCell ⟨ga, 8, none⟩ (.int .i64 404) = w8 at HA HR HB0 HO hHeld ⊢
    refine pure_ (i := 8) (N := some 32) (v := ?_) (a' := ?_) #[true, true, true, true, true, true, true, true, true, false, false, false] rfl rfl (any_of HT_.out (by kernel_rfl)) (fun _ _ _ h => h) (Or.inl ⟨by rfl, ?_⟩) ?_ ?_
    rotate_left
    · intro w'
      go_simp
      with_reducible rfl
    rotate_left
    · simp only [Act.put, List.setIfInBounds_toArray, List.set_cons_zero, List.set_cons_succ, i64_w, i32_w]
      rfl
    refine pure_ (i := 9) (N := some 33) (v := ?_) (a' := ?_) #[true, true, true, true, true, true, true, true, true, true, false, false] rfl rfl (any_of HT_.out (by kernel_rfl)) (fun _ _ _ h => h) (Or.inl ⟨by rfl, ?_⟩) ?_ ?_
    rotate_left
    · intro w'
      go_simp
      with_reducible rfl
    rotate_left
    · simp only [Act.put, List.setIfInBounds_toArray, List.set_cons_zero, List.set_cons_succ, i64_w, i32_w]
      rfl
    refine pure_ (i := 10) (N := some 34) (v := ?_) (a' := ?_) #[true, true, true, true, true, true, true, true, true, true, true, false] rfl rfl (any_of HT_.out (by kernel_rfl)) (fun _ _ _ h => h) (Or.inl ⟨by rfl, ?_⟩) ?_ ?_
    rotate_left
    · intro w'
      go_simp
      with_reducible rfl
    rotate_left
    · simp only [Act.put, List.setIfInBounds_toArray, List.set_cons_zero, List.set_cons_succ, i64_w, i32_w]
      rfl
    refine last_ (i := 11) (N := none) #[true, true, true, true, true, true, true, true, true, true, true, true] rfl rfl (one_of HT_.out (by kernel_rfl)) (by decide) (fun K hK => ?_)
    have hs_ := (blk_cell HA.out 10).trans (show _ = some (.string pool) from rfl)
    have hf_ := blk_frozen HA.out 10
    refine skip_ (w1 := ?_) (by rfl) rfl ?_ ?_
    rotate_left
    · go_simp
      rfl
    have m0_ := Aside0.mk (blk_put (cs' := askedCells g b draw m p q h fs 404 ver r3 addr) HA.out 10 (.string r3) rfl)
    have m1_ := Aside0.mk (blk_far HR.out (p := ⟨ga, 10, none⟩) NE.out (.string r3))
    have m2_ := Aside0.mk (HO.out.set 10 (.string r3))
    have m3_ := Aside0.mk (Below.setCell HB0.out (show w0.heap.size ≤ (⟨ga, 10, none⟩ : Addr).block from hga) (.string r3))
    clear HA HR HO HB0
    have HA := m0_
    have HR := m1_
    have HO := m2_
    have HB0 := m3_
    clear m0_ m1_ m2_ m3_
    refine hK.out _ _ ?_
    clear hK K hs_ hf_
    generalize w8.setCell ⟨ga, 10, none⟩ (.string r3) = w9 at HA HR HB0 HO ⊢
    refine done_ (done_of HT_.out (by kernel_rfl)) ?_
    clear HT_
    go_wp2
    go_ret
    exact ⟨rfl, HA.out, HB0.out, HO.out⟩
  · skip
    refine box_step ?hg (N := 3) ?hd (cs := #[.string ⟨#[]⟩, .string ⟨#[]⟩, .string ⟨#[]⟩]) (t := 93) ?hr ?_; (case hd => rfl); (case hg => rfl); (case hr => first | (go_simp; done) | (go_simp; rfl))
    intro gr hg w5 hbox hb
    have NE := Aside0.mk (by rw [hg]; exact Nat.ne_of_gt (blk_lt HA.out) : gr ≠ ga)
    have GW := Aside0.mk (by rw [hg]; exact HO.out.1 : w.heap.size ≤ gr)
    have GR := Aside0.mk (by rw [hg]; exact below_size HB0.out : w0.heap.size ≤ gr)
    have m0_ := Aside0.mk (blk_below HA.out hb)
    have m1_ := Aside0.mk (HO.out.below hb)
    have m2_ := Aside0.mk (hbox)
    have m3_ := Aside0.mk (below_step HB0.out hb)
    clear HA HO HB0
    have HA := m0_
    have HO := m1_
    have HR := m2_
    have HB0 := m3_
    clear m0_ m1_ m2_ m3_
    clear hb hbox hg
    refine hK.out _ _ ⟨(blk_cell HA.out 0).trans rfl, (blk_cell (blk_below H0.out HB0.out) 0).trans rfl, (blk_cell (blk_below H0.out HB0.out) 1).trans rfl, (blk_cell (blk_below H0.out HB0.out) 2).trans rfl, (blk_cell HA.out 6).trans rfl, (blk_cell HA.out 4).trans rfl⟩ (fun hHeld => ?_)
    clear hK K
    refine norm_ (a' := ?_) ?_ ?_
    rotate_left
    · show Act.put _ (some 3) _ = _
      simp only [Act.put, List.setIfInBounds_toArray, List.set_cons_zero, List.set_cons_succ, i64_w, i32_w]
      rfl
    refine one_ (i := 16) (N := some 22) #[true, true, true, true, true, true, true, true, true, true, true, true, true, true, true, true, true, false, false, false, true, false, false] rfl rfl (one_of HT_.out (by kernel_rfl)) (by decide) (fun K hK => ?_)
    refine goes_ Tryd.func55 (by kernel_rfl) rfl #[.agg #[.int .i64 f0, .slice A1 f1.length c1, .slice A2 f2.length c2], .string h, .string p] (by rfl) rfl rfl (by (try simp only [List.map_toArray, List.map_cons, List.map_nil]); first | done | rfl) ?_
    refine (plane_Find.calls k f0 A1 c1 f1 A2 c2 f2 h p r1 r2 r3 r4 w5 (Kd.C_below HR1.out HB0.out) hc1 (Kd.C_below HR2.out HB0.out) hc2 HF.out).mono ?_
    rintro e w4 ⟨rfl, hb⟩
    refine ⟨_, rfl, ?_⟩
    have m0_ := Aside0.mk (blk_below HA.out hb)
    have m1_ := Aside0.mk (HO.out.below hb)
    have m2_ := Aside0.mk (blk_below HR.out hb)
    have m3_ := Aside0.mk (below_step HB0.out hb)
    clear HA HO HR HB0
    have HA := m0_
    have HO := m1_
    have HR := m2_
    have HB0 := m3_
    clear m0_ m1_ m2_ m3_
    clear hb
    refine hK.out _ _ ⟨(blk_cell HA.out 0).trans rfl, (blk_cell (blk_below H0.out HB0.out) 0).trans rfl, (blk_cell (blk_below H0.out HB0.out) 1).trans rfl, (blk_cell (blk_below H0.out HB0.out) 2).trans rfl, (blk_cell HA.out 6).trans rfl, (blk_cell HA.out 4).trans rfl⟩ (fun hHeld => ?_)
    clear hK K
    refine norm_ (a' := ?_) ?_ ?_
    rotate_left
    · show Act.put _ (some 22) _ = _
      simp only [Act.put, List.setIfInBounds_toArray, List.set_cons_zero, List.set_cons_succ, i64_w, i32_w]
      rfl
    refine pure_ (i := 17) (N := some 5) (v := ?_) (a' := ?_) #[true, true, true, true, true, true, true, true, true, true, true, true, true, true, true, true, true, true, false, false, true, false, false] rfl rfl (any_of HT_.out (by kernel_rfl)) (fun _ _ _ h => h) (Or.inl ⟨by rfl, ?_⟩) ?_ ?_
    rotate_left
    · intro w'
      go_simp
      with_reducible rfl
    rotate_left
    · simp only [Act.put, List.setIfInBounds_toArray, List.set_cons_zero, List.set_cons_succ, i64_w, i32_w]
      rfl
    refine pure_ (i := 18) (N := some 23) (v := ?_) (a' := ?_) #[true, true, true, true, true, true, true, true, true, true, true, true, true, true, true, true, true, true, true, false, true, false, false] rfl rfl (any_of HT_.out (by kernel_rfl)) (fun _ _ _ h => h) (Or.inl ⟨by rfl, ?_⟩) ?_ ?_
    rotate_left
    · intro w'
      go_simp
      with_reducible rfl
    rotate_left
    · simp only [Act.put, List.setIfInBounds_toArray, List.set_cons_zero, List.set_cons_succ, i64_w, i32_w]
      rfl
    refine pure_ (i := 19) (N := some 24) (v := ?_) (a' := ?_) #[true, true, true, true, true, true, true, true, true, true, true, true, true, true, true, true, true, true, true, true, true, false, false] rfl rfl (any_of HT_.out (by kernel_rfl)) (fun _ _ _ h => h) (Or.inl ⟨by rfl, ?_⟩) ?_ ?_
    rotate_left
    · intro w'
      go_simp
      with_reducible rfl
    rotate_left
    · simp only [Act.put, List.setIfInBounds_toArray, List.set_cons_zero, List.set_cons_succ, i64_w, i32_w]
      rfl
    refine last_ (i := 21) (N := none) #[true, true, true, true, true, true, true, true, true, true, true, true, true, true, true, true, true, true, true, true, true, true, false] rfl rfl (one_of HT_.out (by kernel_rfl)) (by decide) (fun K hK => ?_)
    have z0 := (blk_cell HR.out 0).trans (show _ = some (.string ⟨#[]⟩) from rfl)
    have y0 := blk_frozen HR.out 0
    have z1 := (blk_cell HR.out 1).trans (show _ = some (.string ⟨#[]⟩) from rfl)
    have y1 := blk_frozen HR.out 1
    have z2 := (blk_cell HR.out 2).trans (show _ = some (.string ⟨#[]⟩) from rfl)
    have y2 := blk_frozen HR.out 2
    refine skip_ (w1 := ?_) (by rfl) rfl ?_ ?_
    rotate_left
    · go_simp
      rfl
    refine hK.out _ _ ?_
    clear hK K z0 z1 z2 y0 y1 y2
    have m0_ := Aside0.mk ((blk_far (blk_far (blk_far HA.out (p := ⟨gr, 0, none⟩) NE.out.symm (.string r1)) (p := ⟨gr, 1, none⟩) NE.out.symm (.string r2)) (p := ⟨gr, 2, none⟩) NE.out.symm (.string r3)))
    have m1_ := Aside0.mk ((blk_put (cs' := #[.string r1, .string r2, .string r3]) (blk_put (cs' := #[.string r1, .string r2, .string ⟨#[]⟩]) (blk_put (cs' := #[.string r1, .string ⟨#[]⟩, .string ⟨#[]⟩]) HR.out 0 (.string r1) rfl) 1 (.string r2) rfl) 2 (.string r3) rfl))
    have m2_ := Aside0.mk ((Below.setCell (Below.setCell (Below.setCell HB0.out (show w0.heap.size ≤ (⟨gr, 0, none⟩ : Addr).block from GR.out) (.string r1)) (show w0.heap.size ≤ (⟨gr, 1, none⟩ : Addr).block from GR.out) (.string r2)) (show w0.heap.size ≤ (⟨gr, 2, none⟩ : Addr).block from GR.out) (.string r3)))
    have m3_ := Aside0.mk ((Only.setNew (Only.setNew (Only.setNew HO.out GW.out 0 (.string r1)) GW.out 1 (.string r2)) GW.out 2 (.string r3)))
    clear HA HR HB0 HO
    have HA := m0_
    have HR := m1_
    have HB0 := m2_
    have HO := m3_
    clear m0_ m1_ m2_ m3_
    refine pure_ (i := 22) (N := some 4) (v := ?_) (a' := ?_) #[true, true, true, true, true, true, true, true, true, true, true, true, true, true, true, true, true, true, true, true, true, true, true] rfl rfl (any_of HT_.out (by kernel_rfl)) (fun _ _ _ h => h) (Or.inl ⟨by rfl, ?_⟩) ?_ ?_
    rotate_left
    · intro w'
      go_simp
      with_reducible rfl
    rotate_left
    · simp only [Act.put, List.setIfInBounds_toArray, List.set_cons_zero, List.set_cons_succ, i64_w, i32_w]
      rfl
    refine done_ (done_of HT_.out (by kernel_rfl)) ?_
    clear HT_
    generalize (((w4.setCell ⟨gr, 0, none⟩ (.string r1)).setCell ⟨gr, 1, none⟩ (.string r2)).setCell ⟨gr, 2, none⟩ (.string r3)) = w6 at HA HR HB0 HO ⊢
    go_wp2
    refine start_ (n := 12) (S := fun w' => w'.cell? ⟨gr, 2, none⟩ = some (.string r3)) (ds := [11]) #[false, false, false, false, false, false, false, false, false, false, false, false] (by kernel_rfl) rfl rfl ((blk_cell HR.out 2).trans rfl) (fun hHeld => ?_)
    refine with_tab (T := route_T2) route_tab2 (fun HT_ => ?_)
    have m0_ := Aside0.mk (blk_drew HA.out)
    have m1_ := Aside0.mk (blk_drew HR.out)
    have m2_ := Aside0.mk (HO.out.drew)
    have m3_ := Aside0.mk (below_drew1 HB0.out)
    clear HA HR HO HB0
    have HA := m0_
    have HR := m1_
    have HO := m2_
    have HB0 := m3_
    clear m0_ m1_ m2_ m3_
    generalize w6.drew = w7 at HA HR HB0 HO hHeld ⊢
    refine pure_ (i := 0) (N := some 25) (v := ?_) (a' := ?_) #[true, false, false, false, false, false, false, false, false, false, false, false] rfl rfl (any_of HT_.out (by kernel_rfl)) (fun _ _ _ h => h) (Or.inl ⟨by rfl, ?_⟩) ?_ ?_
    rotate_left
    · intro w'
      go_simp
      with_reducible rfl
    rotate_left
    · simp only [Act.put, List.setIfInBounds_toArray, List.set_cons_zero, List.set_cons_succ, i64_w, i32_w]
      rfl
    refine pure_ (i := 1) (N := some 26) (v := ?_) (a' := ?_) #[true, true, false, false, false, false, false, false, false, false, false, false] rfl rfl (any_of HT_.out (by kernel_rfl)) (fun _ _ _ h => h) (Or.inl ⟨by rfl, ?_⟩) ?_ ?_
    rotate_left
    · intro w'
      go_simp
      with_reducible rfl
    rotate_left
    · simp only [Act.put, List.setIfInBounds_toArray, List.set_cons_zero, List.set_cons_succ, i64_w, i32_w]
      rfl
    refine pure_ (i := 2) (N := some 27) (v := ?_) (a' := ?_) #[true, true, true, false, false, false, false, false, false, false, false, false] rfl rfl (any_of HT_.out (by kernel_rfl)) (fun _ _ _ h => h) (Or.inl ⟨by rfl, ?_⟩) ?_ ?_
    rotate_left
    · intro w'
      go_simp
      with_reducible rfl
    rotate_left
    · simp only [Act.put, List.setIfInBounds_toArray, List.set_cons_zero, List.set_cons_succ, i64_w, i32_w]
      rfl
    refine take_ (i := 3) (N := some 28) (v := ?_) (a' := ?_) #[true, true, true, true, false, false, false, false, false, false, false, false] rfl rfl (take_of HT_.out (by kernel_rfl)) (fun _ _ _ h => h) (Or.inl ⟨by rfl, ?_⟩) hHeld ?_ ?_
    rotate_left
    · rintro w' s0
      go_simp
      with_reducible rfl
    rotate_left
    · simp only [Act.put, List.setIfInBounds_toArray, List.set_cons_zero, List.set_cons_succ, i64_w, i32_w]
      rfl
    refine pure_ (i := 4) (N := some 29) (v := ?_) (a' := ?_) #[true, true, true, true, true, false, false, false, false, false, false, false] rfl rfl (any_of HT_.out (by kernel_rfl)) (fun _ _ _ h => h) (Or.inl ⟨by rfl, ?_⟩) ?_ ?_
    rotate_left
    · intro w'
      go_simp
      with_reducible rfl
    rotate_left
    · simp only [Act.put, List.setIfInBounds_toArray, List.set_cons_zero, List.set_cons_succ, i64_w, i32_w]
      rfl
    refine pure_ (i := 5) (N := some 30) (v := ?_) (a' := ?_) #[true, true, true, true, true, true, false, false, false, false, false, false] rfl rfl (any_of HT_.out (by kernel_rfl)) (fun _ _ _ h => h) (Or.inl ⟨by rfl, ?_⟩) ?_ ?_
    rotate_left
    · intro w'
      go_simp
      with_reducible rfl
    rotate_left
    · simp only [Act.put, List.setIfInBounds_toArray, List.set_cons_zero, List.set_cons_succ, i64_w, i32_w]
      rfl
    refine pure_ (i := 6) (N := some 31) (v := ?_) (a' := ?_) #[true, true, true, true, true, true, true, false, false, false, false, false] rfl rfl (any_of HT_.out (by kernel_rfl)) (fun _ _ _ h => h) (Or.inl ⟨by rfl, ?_⟩) ?_ ?_
    rotate_left
    · intro w'
      go_simp
      with_reducible rfl
    rotate_left
    · simp only [Act.put, List.setIfInBounds_toArray, List.set_cons_zero, List.set_cons_succ, i64_w, i32_w]
      rfl
    refine one_ (i := 7) (N := none) #[true, true, true, true, true, true, true, true, false, false, false, false] rfl rfl (one_of HT_.out (by kernel_rfl)) (by decide) (fun K hK => ?_)
    have hs_ := (blk_cell HA.out 8).trans (show _ = some (.int .i64 st) from rfl)
    have hf_ := blk_frozen HA.out 8
    refine skip_ (w1 := ?_) (by rfl) rfl ?_ ?_
    rotate_left
    · go_simp
      rfl
    have m0_ := Aside0.mk (blk_put (cs' := askedCells g b draw m p q h fs 404 ver pool addr) HA.out 8 (.int .i64 404) rfl)
    have m1_ := Aside0.mk (blk_far HR.out (p := ⟨ga, 8, none⟩) NE.out (.int .i64 404))
    have m2_ := Aside0.mk (HO.out.set 8 (.int .i64 404))
    have m3_ := Aside0.mk (Below.setCell HB0.out (show w0.heap.size ≤ (⟨ga, 8, none⟩ : Addr).block from hga) (.int .i64 404))
    clear HA HR HO HB0
    have HA := m0_
    have HR := m1_
    have HO := m2_
    have HB0 := m3_
    clear m0_ m1_ m2_ m3_
    refine hK.out _ _ ((blk_cell HR.out 2).trans rfl) (fun hHeld => ?_)
    clear hK K hs_ hf_
    generalize w7.setCell ⟨ga, 8, none⟩ (.int .i64 404) = w8 at HA HR HB0 HO hHeld ⊢
    refine pure_ (i := 8) (N := some 32) (v := ?_) (a' := ?_) #[true, true, true, true, true, true, true, true, true, false, false, false] rfl rfl (any_of HT_.out (by kernel_rfl)) (fun _ _ _ h => h) (Or.inl ⟨by rfl, ?_⟩) ?_ ?_
    rotate_left
    · intro w'
      go_simp
      with_reducible rfl
    rotate_left
    · simp only [Act.put, List.setIfInBounds_toArray, List.set_cons_zero, List.set_cons_succ, i64_w, i32_w]
      rfl
    refine pure_ (i := 9) (N := some 33) (v := ?_) (a' := ?_) #[true, true, true, true, true, true, true, true, true, true, false, false] rfl rfl (any_of HT_.out (by kernel_rfl)) (fun _ _ _ h => h) (Or.inl ⟨by rfl, ?_⟩) ?_ ?_
    rotate_left
    · intro w'
      go_simp
      with_reducible rfl
    rotate_left
    · simp only [Act.put, List.setIfInBounds_toArray, List.set_cons_zero, List.set_cons_succ, i64_w, i32_w]
      rfl
    refine pure_ (i := 10) (N := some 34) (v := ?_) (a' := ?_) #[true, true, true, true, true, true, true, true, true, true, true, false] rfl rfl (any_of HT_.out (by kernel_rfl)) (fun _ _ _ h => h) (Or.inl ⟨by rfl, ?_⟩) ?_ ?_
    rotate_left
    · intro w'
      go_simp
      with_reducible rfl
    rotate_left
    · simp only [Act.put, List.setIfInBounds_toArray, List.set_cons_zero, List.set_cons_succ, i64_w, i32_w]
      rfl
    refine last_ (i := 11) (N := none) #[true, true, true, true, true, true, true, true, true, true, true, true] rfl rfl (one_of HT_.out (by kernel_rfl)) (by decide) (fun K hK => ?_)
    have hs_ := (blk_cell HA.out 10).trans (show _ = some (.string pool) from rfl)
    have hf_ := blk_frozen HA.out 10
    refine skip_ (w1 := ?_) (by rfl) rfl ?_ ?_
    rotate_left
    · go_simp
      rfl
    have m0_ := Aside0.mk (blk_put (cs' := askedCells g b draw m p q h fs 404 ver r3 addr) HA.out 10 (.string r3) rfl)
    have m1_ := Aside0.mk (blk_far HR.out (p := ⟨ga, 10, none⟩) NE.out (.string r3))
    have m2_ := Aside0.mk (HO.out.set 10 (.string r3))
    have m3_ := Aside0.mk (Below.setCell HB0.out (show w0.heap.size ≤ (⟨ga, 10, none⟩ : Addr).block from hga) (.string r3))
    clear HA HR HO HB0
    have HA := m0_
    have HR := m1_
    have HO := m2_
    have HB0 := m3_
    clear m0_ m1_ m2_ m3_
    refine hK.out _ _ ?_
    clear hK K hs_ hf_
    generalize w8.setCell ⟨ga, 10, none⟩ (.string r3) = w9 at HA HR HB0 HO ⊢
    refine done_ (done_of HT_.out (by kernel_rfl)) ?_
    clear HT_
    go_wp2
    go_ret
    exact ⟨rfl, HA.out, HB0.out, HO.out⟩
end Go.Proofs.YtabkdmfnafeaeaaDoor.S
end
section
/-! take where a pool has the name. -/
namespace Go.Proofs.YtabkdmfnafeaeaaDoor.S
open Go.RowKit Go.Proofs.YtabkdmfnafeaeaaDoorW.PrintWords Go.Proofs.YtabkdmfnafeaeaaDoorW.PrintLast Go.Proofs.YtabkdmfnafeaeaaDoorW.PrintMore
set_option linter.unusedVariables false
set_option linter.unusedSimpArgs false
set_option maxHeartbeats 4000000 in
set_option maxRecDepth 100000 in
theorem take_nought {g : Nat} {f0 : Int} {f1 : List S93} {f2 : List S67} {w0 w : World} (hp : PlaneAt w0 g f0 f1 f2) (hB : Below w0.heap.size w0 w) {ga : Nat} (hga : w0.heap.size ≤ ga) {b : Value} {draw : Nat} {m p q h : ByteArray} {fs : Value} {st ver : Int} {pool addr : ByteArray}
    (hA : AskedAt w ga g b draw m p q h fs st ver pool addr) (hl2 : f2.length ≤ 2000) {i : Nat} (hi : idxP pool f2 0 = (i : Int)) (hin : i < f2.length) (k : Nat) {r1 : Int} (hw : plane_Weigh.f k (rd_T67 f2 (i : Int)).f1 draw = some (r1, false)) :
    Calls Tryd.prog 59 #[.pointer (some ⟨ga, 0, none⟩)] w fun e w' => e = .returned (.bool false) ∧ AskedAt w' ga g b draw m p q h fs 503 ver pool addr ∧ Below w0.heap.size w0 w' ∧ Only ga w w' := by
  obtain ⟨A1, c1, A2, c2, h0, _, _, hr2, hc2⟩ := hp
  have HB := Aside0.mk (Below.refl w.heap.size w)
  have HB0 := Aside0.mk hB
  have H0 := Aside0.mk h0
  have HA := Aside0.mk hA
  have HR2 := Aside0.mk hr2
  clear h0 hr2 hA hB
  have hmf : ∀ (fn : Fn) (first cap : Array Value) (w : World), (Instr.makeFunc fn first cap).run Tryd.prog w = .ok (.func fn first cap) w := fun _ _ _ _ => rfl
  go_enter Tryd.func59, Tryd.ntmps59
  go_wp2_with (first | ((with_reducible refine gate_dst (N := 1) rfl ?_); refine box_event ?hg (N := 1) ?hd (cs := #[.pointer (some ⟨ga, 0, none⟩)]) (t := 99) ?hr ?_; (case hd => rfl); (case hg => rfl); (case hr => first | (go_simp; done) | (go_simp; rfl)); intro gc hg w1 hbox hb; have n0_ := Aside0.mk (below_step HB.out hb); have HC := Aside0.mk hbox; have HA1 := Aside0.mk (blk_below HA.out hb); have k0 : w1.cell? ⟨gc, 0, none⟩ = some (.pointer (some ⟨ga, 0, none⟩)) := (blk_cell hbox 0).trans rfl; have k1 : w1.cell? ⟨ga, 8, none⟩ = some (.int .i64 st) := (blk_cell (blk_below HA.out hb) 8).trans rfl; have k2 := blk_frozen (blk_below HA.out hb) 8; have k3 : w1.cell? ⟨ga, 0, none⟩ = some (.pointer (some ⟨g, 0, none⟩)) := (blk_cell (blk_below HA.out hb) 0).trans rfl; have k4 : w1.cell? ⟨g, 2, none⟩ = some (.slice A2 f2.length c2) := (blk_cell (blk_below (blk_below H0.out HB0.out) hb) 2).trans rfl; have hn1 : gc ≠ ga := Nat.ne_of_gt (by rw [hg]; exact blk_lt HA.out); have hn2 : g ≠ ga := Nat.ne_of_lt (Nat.lt_of_lt_of_le (blk_lt H0.out) hga); clear HB; have HB := n0_; clear hb hbox hg n0_) | fail)
  have HA2 := Aside0.mk (blk_put (cs' := askedCells g b draw m p q h fs 503 ver pool addr) HA1.out 8 (.int .i64 503) rfl)
  have HC2 := Aside0.mk (blk_far HC.out (p := ⟨ga, 8, none⟩) hn1 (.int .i64 503))
  have HB2 := Aside0.mk ((below_step HB0.out HB.out).setCell (show w0.heap.size ≤ (⟨ga, 8, none⟩ : Addr).block from hga) (.int .i64 503))
  have HO2 := Aside0.mk (((Only.refl ga w).below HB.out).set 8 (.int .i64 503))
  clear k0 k1 k2 k3 k4 HB HC HA1 HA HB0 hn1 hn2
  generalize w1.setCell ⟨ga, 8, none⟩ (.int .i64 503) = w2 at HA2 HC2 HB2 HO2 ⊢
  refine (index_ok pool A2 c2 ga gc f2 w2 (Kd.C_below HR2.out HB2.out) hc2 hl2 ((blk_cell HC2.out 0).trans rfl) ((blk_cell HA2.out 10).trans rfl) (blk_lt HC2.out) (blk_lt HA2.out)).mono ?_
  rintro e w4 ⟨rfl, hb⟩
  have HA4 := Aside0.mk (blk_below HA2.out hb)
  have HC4 := Aside0.mk (blk_below HC2.out hb)
  have HB4 := Aside0.mk (below_step HB2.out hb)
  have HO4 := Aside0.mk (HO2.out.below hb)
  clear hb HA2 HC2 HB2 HO2
  rw [hi]
  obtain ⟨ad, TA, tc, hA2, x0, x1, htc, hC⟩ := at_T67 (Kd.C_below HR2.out HB4.out) (i : Int) (by omega) (by omega)
  have HCT := Aside0.mk hC
  have HTC := Aside0.mk htc
  have HW := Aside0.mk hw
  clear hC htc hw
  subst hA2
  simp only [Int.toNat_natCast] at x0 x1
  have c1 : decide ((i : Int) < 0) = false := decide_eq_false (by omega)
  have k0 : w4.cell? ⟨gc, 0, none⟩ = some (.pointer (some ⟨ga, 0, none⟩)) := (blk_cell HC4.out 0).trans rfl
  have k3 : w4.cell? ⟨ga, 0, none⟩ = some (.pointer (some ⟨g, 0, none⟩)) := (blk_cell HA4.out 0).trans rfl
  have k5 : w4.cell? ⟨ga, 2, none⟩ = some (.float .f64 draw) := (blk_cell HA4.out 2).trans rfl
  have k4 : w4.cell? ⟨g, 2, none⟩ = some (.slice (some ad) f2.length c2) := (blk_cell (blk_below H0.out HB4.out) 2).trans rfl
  go_wp2_with fail
  refine (plane_Weigh.calls k TA tc _ draw r1 false w4 HCT.out HTC.out HW.out).mono ?_
  rintro e w5 ⟨rfl, hb⟩
  have HA5 := Aside0.mk (blk_below HA4.out hb)
  have HB5 := Aside0.mk (below_step HB4.out hb)
  have HO5 := Aside0.mk (HO4.out.below hb)
  clear hb
  go_wp2
  go_ret
  exact ⟨rfl, HA5.out, HB5.out, HO5.out⟩
end Go.Proofs.YtabkdmfnafeaeaaDoor.S
end
section
/-! take where a pool has the name. -/
namespace Go.Proofs.YtabkdmfnafeaeaaDoor.S
open Go.RowKit Go.Proofs.YtabkdmfnafeaeaaDoorW.PrintWords Go.Proofs.YtabkdmfnafeaeaaDoorW.PrintLast Go.Proofs.YtabkdmfnafeaeaaDoorW.PrintMore
set_option linter.unusedVariables false
set_option linter.unusedSimpArgs false
noncomputable def take_T8 : Bool × List (List Nat × List Nat) := rtab .any (opsOf Tryd.f59 8)
theorem take_tab8 : rtab .any (opsOf Tryd.f59 8) = take_T8 := rfl
set_option maxHeartbeats 4000000 in
set_option maxRecDepth 100000 in
theorem take_hit {g : Nat} {f0 : Int} {f1 : List S93} {f2 : List S67} {w0 w : World} (hp : PlaneAt w0 g f0 f1 f2) (hB : Below w0.heap.size w0 w) {ga : Nat} (hga : w0.heap.size ≤ ga) {b : Value} {draw : Nat} {m p q h : ByteArray} {fs : Value} {st ver : Int} {pool addr : ByteArray}
    (hA : AskedAt w ga g b draw m p q h fs st ver pool addr) (hl2 : f2.length ≤ 2000) {i : Nat} (hi : idxP pool f2 0 = (i : Int)) (hin : i < f2.length) (k : Nat) {r1 : Int} (hw : plane_Weigh.f k (rd_T67 f2 (i : Int)).f1 draw = some (r1, true)) (hr0 : 0 ≤ r1) (hr1 : r1 < (rd_T67 f2 (i : Int)).f1.length) :
    Calls Tryd.prog 59 #[.pointer (some ⟨ga, 0, none⟩)] w fun e w' => e = .returned (.bool false) ∧ AskedAt w' ga g b draw m p q h fs 200 ver pool (rd_T69 (rd_T67 f2 (i : Int)).f1 r1).f0 ∧ Below w0.heap.size w0 w' ∧ Only ga w w' := by
  obtain ⟨A1, c1, A2, c2, h0, _, _, hr2, hc2⟩ := hp
  have HB := Aside0.mk (Below.refl w.heap.size w)
  have HB0 := Aside0.mk hB
  have H0 := Aside0.mk h0
  have HA := Aside0.mk hA
  have HR2 := Aside0.mk hr2
  clear h0 hr2 hA hB
  have hmf : ∀ (fn : Fn) (first cap : Array Value) (w : World), (Instr.makeFunc fn first cap).run Tryd.prog w = .ok (.func fn first cap) w := fun _ _ _ _ => rfl
  go_enter Tryd.func59, Tryd.ntmps59
  go_wp2_with (first | ((with_reducible refine gate_dst (N := 1) rfl ?_); refine box_event ?hg (N := 1) ?hd (cs := #[.pointer (some ⟨ga, 0, none⟩)]) (t := 99) ?hr ?_; (case hd => rfl); (case hg => rfl); (case hr => first | (go_simp; done) | (go_simp; rfl)); intro gc hg w1 hbox hb; have n0_ := Aside0.mk (below_step HB.out hb); have HC := Aside0.mk hbox; have HA1 := Aside0.mk (blk_below HA.out hb); have k0 : w1.cell? ⟨gc, 0, none⟩ = some (.pointer (some ⟨ga, 0, none⟩)) := (blk_cell hbox 0).trans rfl; have k1 : w1.cell? ⟨ga, 8, none⟩ = some (.int .i64 st) := (blk_cell (blk_below HA.out hb) 8).trans rfl; have k2 := blk_frozen (blk_below HA.out hb) 8; have k3 : w1.cell? ⟨ga, 0, none⟩ = some (.pointer (some ⟨g, 0, none⟩)) := (blk_cell (blk_below HA.out hb) 0).trans rfl; have k4 : w1.cell? ⟨g, 2, none⟩ = some (.slice A2 f2.length c2) := (blk_cell (blk_below (blk_below H0.out HB0.out) hb) 2).trans rfl; have hn1 : gc ≠ ga := Nat.ne_of_gt (by rw [hg]; exact blk_lt HA.out); have hn2 : g ≠ ga := Nat.ne_of_lt (Nat.lt_of_lt_of_le (blk_lt H0.out) hga); clear HB; have HB := n0_; clear hb hbox hg n0_) | fail)
  have HA2 := Aside0.mk (blk_put (cs' := askedCells g b draw m p q h fs 503 ver pool addr) HA1.out 8 (.int .i64 503) rfl)
  have HC2 := Aside0.mk (blk_far HC.out (p := ⟨ga, 8, none⟩) hn1 (.int .i64 503))
  have HB2 := Aside0.mk ((below_step HB0.out HB.out).setCell (show w0.heap.size ≤ (⟨ga, 8, none⟩ : Addr).block from hga) (.int .i64 503))
  have HO2 := Aside0.mk (((Only.refl ga w).below HB.out).set 8 (.int .i64 503))
  clear k0 k1 k2 k3 k4 HB HC HA1 HA HB0 hn1 hn2
  generalize w1.setCell ⟨ga, 8, none⟩ (.int .i64 503) = w2 at HA2 HC2 HB2 HO2 ⊢
  refine (index_ok pool A2 c2 ga gc f2 w2 (Kd.C_below HR2.out HB2.out) hc2 hl2 ((blk_cell HC2.out 0).trans rfl) ((blk_cell HA2.out 10).trans rfl) (blk_lt HC2.out) (blk_lt HA2.out)).mono ?_
  rintro e w4 ⟨rfl, hb⟩
  have HA4 := Aside0.mk (blk_below HA2.out hb)
  have HC4 := Aside0.mk (blk_below HC2.out hb)
  have HB4 := Aside0.mk (below_step HB2.out hb)
  have HO4 := Aside0.mk (HO2.out.below hb)
  clear hb HA2 HC2 HB2 HO2
  rw [hi]
  obtain ⟨ad, TA, tc, hA2, x0, x1, htc, hC⟩ := at_T67 HR2.out (i : Int) (by omega) (by omega)
  obtain ⟨ta, hTA, y0, _⟩ := at_T69 hC r1 hr0 hr1
  have hlt := World.block_lt_of_cell? w0 _ y0
  have hnt : (ta.add (r1.toNat * 2)).block ≠ ga := Nat.ne_of_lt (Nat.lt_of_lt_of_le hlt hga)
  subst hTA
  have Y0 := Aside0.mk y0
  have HNT := Aside0.mk hnt
  clear y0 hlt hnt
  have HCT := Aside0.mk (Kd.C_below hC HB4.out)
  have HTC := Aside0.mk htc
  have HW := Aside0.mk hw
  clear hC htc hw
  replace x0 := pw_cell_below HB4.out x0
  replace x1 := pw_cell_below HB4.out x1
  subst hA2
  simp only [Int.toNat_natCast] at x0 x1
  have c1 : decide ((i : Int) < 0) = false := decide_eq_false (by omega)
  have k0 : w4.cell? ⟨gc, 0, none⟩ = some (.pointer (some ⟨ga, 0, none⟩)) := (blk_cell HC4.out 0).trans rfl
  have k3 : w4.cell? ⟨ga, 0, none⟩ = some (.pointer (some ⟨g, 0, none⟩)) := (blk_cell HA4.out 0).trans rfl
  have k5 : w4.cell? ⟨ga, 2, none⟩ = some (.float .f64 draw) := (blk_cell HA4.out 2).trans rfl
  have k4 : w4.cell? ⟨g, 2, none⟩ = some (.slice (some ad) f2.length c2) := (blk_cell (blk_below H0.out HB4.out) 2).trans rfl
  go_wp2_with fail
  refine (plane_Weigh.calls k (some ta) tc _ draw r1 true w4 HCT.out HTC.out HW.out).mono ?_
  rintro e w5 ⟨rfl, hb⟩
  have HA5 := Aside0.mk (blk_below HA4.out hb)
  have HB5 := Aside0.mk (below_step HB4.out hb)
  have HO5 := Aside0.mk (HO4.out.below hb)
  have HC5 := Aside0.mk (blk_below HC4.out hb)
  clear hb x0 x1 k0 k3 k4 k5 c1
  go_wp2
  have NGC := Aside0.mk (blk_ne HC5.out HA5.out (by decide))
  refine start_ (n := 15) (S := fun w' => w'.cell? ⟨gc, 0, none⟩ = some (.pointer (some ⟨ga, 0, none⟩)) ∧ w'.cell? (ta.add (r1.toNat * 2)) = some (.string (rd_T69 (rd_T67 f2 (i : Int)).f1 r1).f0)) (ds := [14]) #[false, false, false, false, false, false, false, false, false, false, false, false, false, false, false] (by kernel_rfl) rfl rfl ⟨(blk_cell HC5.out 0).trans rfl, pw_cell_below HB5.out Y0.out⟩ (fun hHeld => ?_)
  refine with_tab (T := take_T8) take_tab8 (fun HT_ => ?_)
  have n0_ := Aside0.mk (blk_drew HA5.out)
  clear HA5
  have HA5 := n0_
  clear n0_
  have n0_ := Aside0.mk (blk_drew HC5.out)
  clear HC5
  have HC5 := n0_
  clear n0_
  have n0_ := Aside0.mk (below_drew1 HB5.out)
  clear HB5
  have HB5 := n0_
  clear n0_
  have n0_ := Aside0.mk (HO5.out.drew)
  clear HO5
  have HO5 := n0_
  clear n0_
  generalize w5.drew = wq at HA5 HC5 HB5 HO5 hHeld ⊢
  refine take_ (i := 0) (N := some 43) (v := ?_) (a' := ?_) #[true, false, false, false, false, false, false, false, false, false, false, false, false, false, false] rfl rfl (take_of HT_.out (by kernel_rfl)) (fun _ _ _ h => h) (Or.inl ⟨by rfl, ?_⟩) hHeld ?_ ?_
  rotate_left
  · rintro w' ⟨s0, s1⟩
    go_simp
    with_reducible rfl
  rotate_left
  · simp only [Act.put, List.setIfInBounds_toArray, List.set_cons_zero, List.set_cons_succ, i64_w, i32_w]
    rfl
  refine take_ (i := 1) (N := some 44) (v := ?_) (a' := ?_) #[true, true, false, false, false, false, false, false, false, false, false, false, false, false, false] rfl rfl (take_of HT_.out (by kernel_rfl)) (fun _ _ _ h => h) (Or.inl ⟨by rfl, ?_⟩) hHeld ?_ ?_
  rotate_left
  · rintro w' ⟨s0, s1⟩
    go_simp
    with_reducible rfl
  rotate_left
  · simp only [Act.put, List.setIfInBounds_toArray, List.set_cons_zero, List.set_cons_succ, i64_w, i32_w]
    rfl
  refine pure_ (i := 2) (N := some 45) (v := ?_) (a' := ?_) #[true, true, true, false, false, false, false, false, false, false, false, false, false, false, false] rfl rfl (any_of HT_.out (by kernel_rfl)) (fun _ _ _ h => h) (Or.inl ⟨by rfl, ?_⟩) ?_ ?_
  rotate_left
  · intro w'
    go_simp
    with_reducible rfl
  rotate_left
  · simp only [Act.put, List.setIfInBounds_toArray, List.set_cons_zero, List.set_cons_succ, i64_w, i32_w]
    rfl
  refine pure_ (i := 3) (N := some 46) (v := ?_) (a' := ?_) #[true, true, true, true, false, false, false, false, false, false, false, false, false, false, false] rfl rfl (any_of HT_.out (by kernel_rfl)) (fun _ _ _ h => h) (Or.inl ⟨by rfl, ?_⟩) ?_ ?_
  rotate_left
  · intro w'
    go_simp
    with_reducible rfl
  rotate_left
  · simp only [Act.put, List.setIfInBounds_toArray, List.set_cons_zero, List.set_cons_succ, i64_w, i32_w]
    rfl
  refine pure_ (i := 4) (N := some 47) (v := ?_) (a' := ?_) #[true, true, true, true, true, false, false, false, false, false, false, false, false, false, false] rfl rfl (any_of HT_.out (by kernel_rfl)) (fun _ _ _ h => h) (Or.inl ⟨by rfl, ?_⟩) ?_ ?_
  rotate_left
  · intro w'
    go_simp
    with_reducible rfl
  rotate_left
  · simp only [Act.put, List.setIfInBounds_toArray, List.set_cons_zero, List.set_cons_succ, i64_w, i32_w]
    rfl
  refine pure_ (i := 5) (N := some 48) (v := ?_) (a' := ?_) #[true, true, true, true, true, true, false, false, false, false, false, false, false, false, false] rfl rfl (any_of HT_.out (by kernel_rfl)) (fun _ _ _ h => h) (Or.inl ⟨by rfl, ?_⟩) ?_ ?_
  rotate_left
  · intro w'
    go_simp
    with_reducible rfl
  rotate_left
  · simp only [Act.put, List.setIfInBounds_toArray, List.set_cons_zero, List.set_cons_succ, i64_w, i32_w]
    rfl
  refine take_ (i := 6) (N := some 49) (v := ?_) (a' := ?_) #[true, true, true, true, true, true, true, false, false, false, false, false, false, false, false] rfl rfl (take_of HT_.out (by kernel_rfl)) (fun _ _ _ h => h) (Or.inl ⟨by rfl, ?_⟩) hHeld ?_ ?_
  rotate_left
  · rintro w' ⟨s0, s1⟩
    go_simp
    with_reducible rfl
  rotate_left
  · simp only [Act.put, List.setIfInBounds_toArray, List.set_cons_zero, List.set_cons_succ, i64_w, i32_w]
    rfl
  refine pure_ (i := 7) (N := some 50) (v := ?_) (a' := ?_) #[true, true, true, true, true, true, true, true, false, false, false, false, false, false, false] rfl rfl (any_of HT_.out (by kernel_rfl)) (fun _ _ _ h => h) (Or.inl ⟨by rfl, ?_⟩) ?_ ?_
  rotate_left
  · intro w'
    go_simp
    with_reducible rfl
  rotate_left
  · simp only [Act.put, List.setIfInBounds_toArray, List.set_cons_zero, List.set_cons_succ, i64_w, i32_w]
    rfl
  refine pure_ (i := 8) (N := some 51) (v := ?_) (a' := ?_) #[true, true, true, true, true, true, true, true, true, false, false, false, false, false, false] rfl rfl (any_of HT_.out (by kernel_rfl)) (fun _ _ _ h => h) (Or.inl ⟨by rfl, ?_⟩) ?_ ?_
  rotate_left
  · intro w'
    go_simp
    with_reducible rfl
  rotate_left
  · simp only [Act.put, List.setIfInBounds_toArray, List.set_cons_zero, List.set_cons_succ, i64_w, i32_w]
    rfl
  refine pure_ (i := 9) (N := some 52) (v := ?_) (a' := ?_) #[true, true, true, true, true, true, true, true, true, true, false, false, false, false, false] rfl rfl (any_of HT_.out (by kernel_rfl)) (fun _ _ _ h => h) (Or.inl ⟨by rfl, ?_⟩) ?_ ?_
  rotate_left
  · intro w'
    go_simp
    with_reducible rfl
  rotate_left
  · simp only [Act.put, List.setIfInBounds_toArray, List.set_cons_zero, List.set_cons_succ, i64_w, i32_w]
    rfl
  refine one_ (i := 10) (N := none) #[true, true, true, true, true, true, true, true, true, true, true, false, false, false, false] rfl rfl (one_of HT_.out (by kernel_rfl)) (by decide) (fun K hK => ?_)
  have hs_ : wq.cell? ⟨ga, 8, none⟩ = some (.int .i64 503) := (blk_cell HA5.out 8).trans rfl
  have hf_ := blk_frozen HA5.out 8
  refine skip_ (w1 := ?_) (by rfl) rfl ?_ ?_
  rotate_left
  · go_simp
    rfl
  have hA_ := blk_put (cs' := askedCells g b draw m p q h fs 200 ver pool addr) HA5.out 8 (.int .i64 200) rfl
  have hC_ := blk_far HC5.out (p := ⟨ga, 8, none⟩) NGC.out (.int .i64 200)
  have hY_ := (World.cell?_of_block (w := wq) (Below.heap_setCell wq ⟨ga, 8, none⟩ (.int .i64 200) (ta.add (r1.toNat * 2)).block HNT.out)).trans (pw_cell_below HB5.out Y0.out)
  refine hK.out _ _ ⟨(blk_cell hC_ 0).trans rfl, hY_⟩ (fun hHeld => ?_)
  clear hK K hs_ hf_
  have HA6 := Aside0.mk hA_
  have HB6 := Aside0.mk (HB5.out.setCell (show w0.heap.size ≤ (⟨ga, 8, none⟩ : Addr).block from hga) (.int .i64 200))
  have HO6 := Aside0.mk (HO5.out.set 8 (.int .i64 200))
  clear hA_ hC_ hY_ HA5 HB5 HO5
  generalize wq.setCell ⟨ga, 8, none⟩ (.int .i64 200) = wr at HA6 HB6 HO6 hHeld ⊢
  refine pure_ (i := 11) (N := some 53) (v := ?_) (a' := ?_) #[true, true, true, true, true, true, true, true, true, true, true, true, false, false, false] rfl rfl (any_of HT_.out (by kernel_rfl)) (fun _ _ _ h => h) (Or.inl ⟨by rfl, ?_⟩) ?_ ?_
  rotate_left
  · intro w'
    go_simp
    with_reducible rfl
  rotate_left
  · simp only [Act.put, List.setIfInBounds_toArray, List.set_cons_zero, List.set_cons_succ, i64_w, i32_w]
    rfl
  refine pure_ (i := 12) (N := some 54) (v := ?_) (a' := ?_) #[true, true, true, true, true, true, true, true, true, true, true, true, true, false, false] rfl rfl (any_of HT_.out (by kernel_rfl)) (fun _ _ _ h => h) (Or.inl ⟨by rfl, ?_⟩) ?_ ?_
  rotate_left
  · intro w'
    go_simp
    with_reducible rfl
  rotate_left
  · simp only [Act.put, List.setIfInBounds_toArray, List.set_cons_zero, List.set_cons_succ, i64_w, i32_w]
    rfl
  refine pure_ (i := 13) (N := some 55) (v := ?_) (a' := ?_) #[true, true, true, true, true, true, true, true, true, true, true, true, true, true, false] rfl rfl (any_of HT_.out (by kernel_rfl)) (fun _ _ _ h => h) (Or.inl ⟨by rfl, ?_⟩) ?_ ?_
  rotate_left
  · intro w'
    go_simp
    with_reducible rfl
  rotate_left
  · simp only [Act.put, List.setIfInBounds_toArray, List.set_cons_zero, List.set_cons_succ, i64_w, i32_w]
    rfl
  refine last_ (i := 14) (N := none) #[true, true, true, true, true, true, true, true, true, true, true, true, true, true, true] rfl rfl (one_of HT_.out (by kernel_rfl)) (by decide) (fun K hK => ?_)
  have hs_ : wr.cell? ⟨ga, 11, none⟩ = some (.string addr) := (blk_cell HA6.out 11).trans rfl
  have hf_ := blk_frozen HA6.out 11
  refine skip_ (w1 := ?_) (by rfl) rfl ?_ ?_
  rotate_left
  · go_simp
    rfl
  refine hK.out _ _ ?_
  clear hK K hs_ hf_ hHeld
  refine done_ (done_of HT_.out (by kernel_rfl)) ?_
  go_wp2
  go_ret
  exact ⟨rfl, blk_put (cs' := askedCells g b draw m p q h fs 200 ver pool (rd_T69 (rd_T67 f2 (i : Int)).f1 r1).f0) HA6.out 11 (.string (rd_T69 (rd_T67 f2 (i : Int)).f1 r1).f0) rfl, HB6.out.setCell (show w0.heap.size ≤ (⟨ga, 11, none⟩ : Addr).block from hga) _, HO6.out.set 11 _⟩
end Go.Proofs.YtabkdmfnafeaeaaDoor.S
end
section
/-! parse, over what head.Parse says of the bytes. -/
namespace Go.Proofs.YtabkdmfnafeaeaaDoor.S
open Go.RowKit Go.Proofs.YtabkdmfnafeaeaaDoorW.PrintWords Go.Proofs.YtabkdmfnafeaeaaDoorW.PrintLast Go.Proofs.YtabkdmfnafeaeaaDoorW.PrintMore
set_option linter.unusedVariables false
set_option linter.unusedSimpArgs false
set_option maxHeartbeats 4000000 in
set_option maxRecDepth 100000 in
theorem parse_ok {w0 w : World} (hB : Below w0.heap.size w0 w) {ga g : Nat} (hga : w0.heap.size ≤ ga) {bA : Option Addr} {bn bc : Nat} {draw : Nat} {m p q h : ByteArray} {fA : Option Addr} {fn fc : Nat} {st ver : Int} {pool addr : ByteArray}
    (hA : AskedAt w ga g (.slice bA bn bc) draw m p q h (.slice fA fn fc) st ver pool addr) {m' p' q' h' : ByteArray} {n er : Int}
    (hP : Calls Tryd.prog 14 #[.slice bA bn bc] w fun e w' => ∃ A4 n4 c4, e = .returned (.tuple #[.agg #[.string m', .string p', .string q', .string h', .slice A4 n4 c4], .int .i64 n, .int .i64 er]) ∧ Below w.heap.size w w') :
    Calls Tryd.prog 57 #[.pointer (some ⟨ga, 0, none⟩)] w fun e w' => ∃ A4 n4 c4, e = .returned (.bool (er == 0)) ∧ AskedAt w' ga g (.slice bA bn bc) draw m' p' q' h' (.slice A4 n4 c4) 400 ver pool addr ∧ Below w0.heap.size w0 w' ∧ Only ga w w' := by
  have HB0 := Aside0.mk hB
  have HA := Aside0.mk hA
  have HP := Aside0.mk hP
  have k1 : w.cell? ⟨ga, 1, none⟩ = some (.slice bA bn bc) := (blk_cell hA 1).trans rfl
  clear hA hB hP
  go_enter Tryd.func57, Tryd.ntmps57
  go_wp2_with fail
  refine HP.out.mono ?_
  rintro e w2 ⟨A4, n4, c4, rfl, hb⟩
  have HA2 := Aside0.mk (blk_below HA.out hb)
  have HB2 := Aside0.mk (below_step HB0.out hb)
  have HO2 := Aside0.mk ((Only.refl ga w).below hb)
  clear hb k1 HA HB0 HP
  go_wp2_with (first | ((with_reducible refine gate_dst (N := 3) rfl ?_); refine box_event ?hg (N := 3) ?hd (cs := #[.string ⟨#[]⟩, .string ⟨#[]⟩, .string ⟨#[]⟩, .string ⟨#[]⟩, .slice none 0 0]) (t := 25) ?hr ?_; (case hd => rfl); (case hg => rfl); (case hr => first | (go_simp; done) | (go_simp; rfl)); intro gb hg w3 hbox hb; have HA3 := Aside0.mk (blk_below HA2.out hb); have HB3 := Aside0.mk (below_step HB2.out hb); have HO3 := Aside0.mk (HO2.out.below hb); have HN := Aside0.mk (by rw [hg]; exact HO2.out.1 : w.heap.size ≤ gb); have hne : gb ≠ ga := Nat.ne_of_gt (by rw [hg]; exact blk_lt HA2.out); have hne2 : ga ≠ gb := hne.symm; have z0 : w3.cell? ⟨gb, 0, none⟩ = some (.string ⟨#[]⟩) := (blk_cell hbox 0).trans rfl; have z1 : w3.cell? ⟨gb, 1, none⟩ = some (.string ⟨#[]⟩) := (blk_cell hbox 1).trans rfl; have z2 : w3.cell? ⟨gb, 2, none⟩ = some (.string ⟨#[]⟩) := (blk_cell hbox 2).trans rfl; have z3 : w3.cell? ⟨gb, 3, none⟩ = some (.string ⟨#[]⟩) := (blk_cell hbox 3).trans rfl; have z4 : w3.cell? ⟨gb, 4, none⟩ = some (.slice none 0 0) := (blk_cell hbox 4).trans rfl; have f0 := blk_frozen hbox 0; have f1 := blk_frozen hbox 1; have f2 := blk_frozen hbox 2; have f3 := blk_frozen hbox 3; have f4 := blk_frozen hbox 4; have y3 : w3.cell? ⟨ga, 3, none⟩ = some (.string m) := (blk_cell HA3.out 3).trans rfl; have y4 : w3.cell? ⟨ga, 4, none⟩ = some (.string p) := (blk_cell HA3.out 4).trans rfl; have y5 : w3.cell? ⟨ga, 5, none⟩ = some (.string q) := (blk_cell HA3.out 5).trans rfl; have y6 : w3.cell? ⟨ga, 6, none⟩ = some (.string h) := (blk_cell HA3.out 6).trans rfl; have y7 : w3.cell? ⟨ga, 7, none⟩ = some (.slice fA fn fc) := (blk_cell HA3.out 7).trans rfl; have y8 : w3.cell? ⟨ga, 8, none⟩ = some (.int .i64 st) := (blk_cell HA3.out 8).trans rfl; have x3 := blk_frozen HA3.out 3; have x4 := blk_frozen HA3.out 4; have x5 := blk_frozen HA3.out 5; have x6 := blk_frozen HA3.out 6; have x7 := blk_frozen HA3.out 7; have x8 := blk_frozen HA3.out 8; have HG := Aside0.mk (by rw [hg]; exact (below_size HB2.out) : w0.heap.size ≤ gb); clear hb hbox hg))
  go_ret
  refine ⟨A4, n4, c4, rfl, ?_, ?_, ?_⟩
  · have b0 := blk_far (blk_far (blk_far (blk_far (blk_far HA3.out (p := ⟨gb, 0, none⟩) hne2 (.string m')) (p := ⟨gb, 1, none⟩) hne2 (.string p')) (p := ⟨gb, 2, none⟩) hne2 (.string q')) (p := ⟨gb, 3, none⟩) hne2 (.string h')) (p := ⟨gb, 4, none⟩) hne2 (.slice A4 n4 c4)
    exact blk_put (blk_set (blk_set (blk_set (blk_set (blk_set b0 3 _) 4 _) 5 _) 6 _) 7 _) 8 _ rfl
  · exact below_set (below_set (below_set (below_set (below_set (below_set (below_set (below_set (below_set (below_set (below_set HB3.out HG.out) HG.out) HG.out) HG.out) HG.out) hga) hga) hga) hga) hga) hga
  · exact (((((((((((HO3.out.setNew HN.out 0 _).setNew HN.out 1 _).setNew HN.out 2 _).setNew HN.out 3 _).setNew HN.out 4 _).set 3 _).set 4 _).set 5 _).set 6 _).set 7 _).set 8 _)
end Go.Proofs.YtabkdmfnafeaeaaDoor.S
end
section
/-! Plane.Serve over its three steps. -/
namespace Go.Proofs.YtabkdmfnafeaeaaDoor.S
open Go.RowKit Go.Proofs.YtabkdmfnafeaeaaDoorW.PrintWords Go.Proofs.YtabkdmfnafeaeaaDoorW.PrintLast Go.Proofs.YtabkdmfnafeaeaaDoorW.PrintMore
set_option linter.unusedVariables false
set_option linter.unusedSimpArgs false
noncomputable def serve_T3 : Bool × List (List Nat × List Nat) := rtab .any (opsOf Tryd.f30 3)
theorem serve_tab3 : rtab .any (opsOf Tryd.f30 3) = serve_T3 := rfl
set_option maxHeartbeats 4000000 in
set_option maxRecDepth 100000 in
theorem serve_walk {g : Nat} {f0 : Int} {f1 : List S93} {f2 : List S67} {w : World} (hp : PlaneAt w g f0 f1 f2) (bA : Option Addr) (bn bc draw : Nat) (b1 b2 : Bool) (m p q h pool addr : ByteArray) (st : Int)
    (h1 : ∀ (ga : Nat) (w1 : World), w.heap.size ≤ ga → Below w.heap.size w w1 → AskedAt w1 ga g (.slice bA bn bc) draw ⟨#[]⟩ ⟨#[]⟩ ⟨#[]⟩ ⟨#[]⟩ (.slice none 0 0) 0 f0 ⟨#[]⟩ ⟨#[]⟩ → Calls Tryd.prog 57 #[.pointer (some ⟨ga, 0, none⟩)] w1 fun e w' => ∃ A4 n4 c4, e = .returned (.bool b1) ∧ AskedAt w' ga g (.slice bA bn bc) draw m p q h (.slice A4 n4 c4) 400 f0 ⟨#[]⟩ ⟨#[]⟩ ∧ Below w.heap.size w w' ∧ Only ga w1 w')
    (h2 : b1 = true → ∀ (ga : Nat) (w1 : World) (fs : Value), w.heap.size ≤ ga → Below w.heap.size w w1 → AskedAt w1 ga g (.slice bA bn bc) draw m p q h fs 400 f0 ⟨#[]⟩ ⟨#[]⟩ → Calls Tryd.prog 58 #[.pointer (some ⟨ga, 0, none⟩)] w1 fun e w' => e = .returned (.bool b2) ∧ AskedAt w' ga g (.slice bA bn bc) draw m p q h fs 404 f0 pool ⟨#[]⟩ ∧ Below w.heap.size w w' ∧ Only ga w1 w')
    (h3 : b1 = true → b2 = true → ∀ (ga : Nat) (w1 : World) (fs : Value), w.heap.size ≤ ga → Below w.heap.size w w1 → AskedAt w1 ga g (.slice bA bn bc) draw m p q h fs 404 f0 pool ⟨#[]⟩ → Calls Tryd.prog 59 #[.pointer (some ⟨ga, 0, none⟩)] w1 fun e w' => e = .returned (.bool false) ∧ AskedAt w' ga g (.slice bA bn bc) draw m p q h fs st f0 pool addr ∧ Below w.heap.size w w' ∧ Only ga w1 w') :
    Calls Tryd.prog 30 #[.pointer (some ⟨g, 0, none⟩), .slice bA bn bc, .float .f64 draw] w fun e w' => e = .returned (.agg #[.int .i64 (if b1 = true then (if b2 = true then st else 404) else 400), .int .i64 f0, .string (if b1 = true then pool else ⟨#[]⟩), .string (if b1 = true ∧ b2 = true then addr else ⟨#[]⟩)]) ∧ Below w.heap.size w w' := by
  obtain ⟨A1, c1, A2, c2, h0, _, _, _, _⟩ := hp
  have H0 := Aside0.mk h0
  have S1 := Aside0.mk h1
  have S2 := Aside0.mk h2
  have S3 := Aside0.mk h3
  have HB0 := Aside0.mk (Below.refl w.heap.size w)
  clear h0 h1 h2 h3
  have hu102 := Tryd.underlying102
  have hu62 := Tryd.underlying62
  have hu25 := Tryd.underlying25
  have hu97 := Tryd.underlying97
  have hu55 := Tryd.underlying55
  have hmf : ∀ (fn : Fn) (first cap : Array Value) (w : World), (Instr.makeFunc fn first cap).run Tryd.prog w = .ok (.func fn first cap) w := fun _ _ _ _ => rfl
  go_enter Tryd.func30, Tryd.ntmps30
  go_wp2_with (first | ((with_reducible refine gate_dst (N := 6) rfl ?_); refine box_event ?hg (N := 6) ?hd (cs := #[.int .i64 0, .int .i64 0, .string ⟨#[]⟩, .string ⟨#[]⟩]) (t := 62) ?hr ?_; (case hd => rfl); (case hg => rfl); (case hr => first | (go_simp; done) | (go_simp; rfl)); intro gb hg w1 hbox hb; have n0_ := Aside0.mk (below_step HB0.out hb); have HG := Aside0.mk hbox; have GB := Aside0.mk (Nat.le_of_eq hg.symm : w.heap.size ≤ gb); clear HB0; have HB0 := n0_; clear hb hbox hg n0_) | fail)
  refine start_ (n := 14) (S := fun w' => w'.cell? ⟨g, 0, none⟩ = some (.int .i64 f0)) (ds := [12]) #[false, false, false, false, false, false, false, false, false, false, false, false, false, false] (by kernel_rfl) rfl rfl ((blk_cell (blk_below H0.out HB0.out) 0).trans rfl) (fun hHeld => ?_)
  refine with_tab (T := serve_T3) serve_tab3 (fun HT_ => ?_)
  have m0_ := Aside0.mk (below_drew1 HB0.out)
  have m1_ := Aside0.mk (blk_drew HG.out)
  clear HB0 HG
  have HB0 := m0_
  have HG := m1_
  clear m0_ m1_
  generalize w1.drew = w2 at HB0 HG hHeld ⊢
  refine pure_ (i := 0) (N := some 13) (v := ?_) (a' := ?_) #[true, false, false, false, false, false, false, false, false, false, false, false, false, false] rfl rfl (any_of HT_.out (by kernel_rfl)) (fun _ _ _ h => h) (Or.inl ⟨by rfl, ?_⟩) ?_ ?_
  rotate_left
  · intro w'
    go_simp
    with_reducible rfl
  rotate_left
  · simp only [Act.put, List.setIfInBounds_toArray, List.set_cons_zero, List.set_cons_succ, i64_w, i32_w]
    rfl
  refine pure_ (i := 1) (N := some 14) (v := ?_) (a' := ?_) #[true, true, false, false, false, false, false, false, false, false, false, false, false, false] rfl rfl (any_of HT_.out (by kernel_rfl)) (fun _ _ _ h => h) (Or.inl ⟨by rfl, ?_⟩) ?_ ?_
  rotate_left
  · intro w'
    go_simp
    with_reducible rfl
  rotate_left
  · simp only [Act.put, List.setIfInBounds_toArray, List.set_cons_zero, List.set_cons_succ, i64_w, i32_w]
    rfl
  refine pure_ (i := 2) (N := some 15) (v := ?_) (a' := ?_) #[true, true, true, false, false, false, false, false, false, false, false, false, false, false] rfl rfl (any_of HT_.out (by kernel_rfl)) (fun _ _ _ h => h) (Or.inl ⟨by rfl, ?_⟩) ?_ ?_
  rotate_left
  · intro w'
    go_simp
    with_reducible rfl
  rotate_left
  · simp only [Act.put, List.setIfInBounds_toArray, List.set_cons_zero, List.set_cons_succ, i64_w, i32_w]
    rfl
  refine pure_ (i := 3) (N := some 16) (v := ?_) (a' := ?_) #[true, true, true, true, false, false, false, false, false, false, false, false, false, false] rfl rfl (any_of HT_.out (by kernel_rfl)) (fun _ _ _ h => h) (Or.inl ⟨by rfl, ?_⟩) ?_ ?_
  rotate_left
  · intro w'
    go_simp
    with_reducible rfl
  rotate_left
  · simp only [Act.put, List.setIfInBounds_toArray, List.set_cons_zero, List.set_cons_succ, i64_w, i32_w]
    rfl
  refine pure_ (i := 4) (N := some 17) (v := ?_) (a' := ?_) #[true, true, true, true, true, false, false, false, false, false, false, false, false, false] rfl rfl (any_of HT_.out (by kernel_rfl)) (fun _ _ _ h => h) (Or.inl ⟨by rfl, ?_⟩) ?_ ?_
  rotate_left
  · intro w'
    go_simp
    with_reducible rfl
  rotate_left
  · simp only [Act.put, List.setIfInBounds_toArray, List.set_cons_zero, List.set_cons_succ, i64_w, i32_w]
    rfl
  refine pure_ (i := 5) (N := some 18) (v := ?_) (a' := ?_) #[true, true, true, true, true, true, false, false, false, false, false, false, false, false] rfl rfl (any_of HT_.out (by kernel_rfl)) (fun _ _ _ h => h) (Or.inl ⟨by rfl, ?_⟩) ?_ ?_
  rotate_left
  · intro w'
    go_simp
    with_reducible rfl
  rotate_left
  · simp only [Act.put, List.setIfInBounds_toArray, List.set_cons_zero, List.set_cons_succ, i64_w, i32_w]
    rfl
  refine pure_ (i := 6) (N := some 19) (v := ?_) (a' := ?_) #[true, true, true, true, true, true, true, false, false, false, false, false, false, false] rfl rfl (any_of HT_.out (by kernel_rfl)) (fun _ _ _ h => h) (Or.inl ⟨by rfl, ?_⟩) ?_ ?_
  rotate_left
  · intro w'
    go_simp
    with_reducible rfl
  rotate_left
  · simp only [Act.put, List.setIfInBounds_toArray, List.set_cons_zero, List.set_cons_succ, i64_w, i32_w]
    rfl
  refine pure_ (i := 7) (N := some 20) (v := ?_) (a' := ?_) #[true, true, true, true, true, true, true, true, false, false, false, false, false, false] rfl rfl (any_of HT_.out (by kernel_rfl)) (fun _ _ _ h => h) (Or.inl ⟨by rfl, ?_⟩) ?_ ?_
  rotate_left
  · intro w'
    go_simp
    with_reducible rfl
  rotate_left
  · simp only [Act.put, List.setIfInBounds_toArray, List.set_cons_zero, List.set_cons_succ, i64_w, i32_w]
    rfl
  refine pure_ (i := 8) (N := some 21) (v := ?_) (a' := ?_) #[true, true, true, true, true, true, true, true, true, false, false, false, false, false] rfl rfl (any_of HT_.out (by kernel_rfl)) (fun _ _ _ h => h) (Or.inl ⟨by rfl, ?_⟩) ?_ ?_
  rotate_left
  · intro w'
    go_simp
    with_reducible rfl
  rotate_left
  · simp only [Act.put, List.setIfInBounds_toArray, List.set_cons_zero, List.set_cons_succ, i64_w, i32_w]
    rfl
  refine take_ (i := 9) (N := some 22) (v := ?_) (a' := ?_) #[true, true, true, true, true, true, true, true, true, true, false, false, false, false] rfl rfl (take_of HT_.out (by kernel_rfl)) (fun _ _ _ h => h) (Or.inl ⟨by rfl, ?_⟩) hHeld ?_ ?_
  rotate_left
  · rintro w' s0
    go_simp
    with_reducible rfl
  rotate_left
  · simp only [Act.put, List.setIfInBounds_toArray, List.set_cons_zero, List.set_cons_succ, i64_w, i32_w]
    rfl
  refine pure_ (i := 10) (N := some 23) (v := ?_) (a' := ?_) #[true, true, true, true, true, true, true, true, true, true, true, false, false, false] rfl rfl (any_of HT_.out (by kernel_rfl)) (fun _ _ _ h => h) (Or.inl ⟨by rfl, ?_⟩) ?_ ?_
  rotate_left
  · intro w'
    go_simp
    with_reducible rfl
  rotate_left
  · simp only [Act.put, List.setIfInBounds_toArray, List.set_cons_zero, List.set_cons_succ, i64_w, i32_w]
    rfl
  refine pure_ (i := 11) (N := some 24) (v := ?_) (a' := ?_) #[true, true, true, true, true, true, true, true, true, true, true, true, false, false] rfl rfl (any_of HT_.out (by kernel_rfl)) (fun _ _ _ h => h) (Or.inl ⟨by rfl, ?_⟩) ?_ ?_
  rotate_left
  · intro w'
    go_simp
    with_reducible rfl
  rotate_left
  · simp only [Act.put, List.setIfInBounds_toArray, List.set_cons_zero, List.set_cons_succ, i64_w, i32_w]
    rfl
  refine last_ (i := 12) (N := some 25) #[true, true, true, true, true, true, true, true, true, true, true, true, true, false] rfl rfl (one_of HT_.out (by kernel_rfl)) (by decide) (fun K hK => ?_)
  refine box_step ?hg (N := 25) ?hd (cs := askedCells g (.slice bA bn bc) draw ⟨#[]⟩ ⟨#[]⟩ ⟨#[]⟩ ⟨#[]⟩ (.slice none 0 0) 0 f0 ⟨#[]⟩ ⟨#[]⟩) (t := 102) ?hr ?_; (case hd => rfl); (case hg => rfl); (case hr => first | (go_simp; done) | (go_simp; rfl))
  intro ga hg w3 hbox hb
  have NE := Aside0.mk (by rw [hg]; exact Nat.ne_of_lt (blk_lt HG.out) : gb ≠ ga)
  have GA := Aside0.mk (by rw [hg]; exact below_size HB0.out : w.heap.size ≤ ga)
  have m0_ := Aside0.mk (hbox)
  have m1_ := Aside0.mk (blk_below HG.out hb)
  have m2_ := Aside0.mk (below_step HB0.out hb)
  clear HG HB0
  have HA := m0_
  have HG := m1_
  have HB0 := m2_
  clear m0_ m1_ m2_
  clear hb hbox hg
  refine hK.out _ _ ?_
  clear hHeld
  clear hK K
  refine norm_ (a' := ?_) ?_ ?_
  rotate_left
  · show Act.put _ (some 25) _ = _
    simp only [Act.put, List.setIfInBounds_toArray, List.set_cons_zero, List.set_cons_succ, i64_w, i32_w]
    rfl
  refine pure_ (i := 13) (N := some 7) (v := ?_) (a' := ?_) #[true, true, true, true, true, true, true, true, true, true, true, true, true, true] rfl rfl (any_of HT_.out (by kernel_rfl)) (fun _ _ _ h => h) (Or.inl ⟨by rfl, ?_⟩) ?_ ?_
  rotate_left
  · intro w'
    go_simp
    with_reducible rfl
  rotate_left
  · simp only [Act.put, List.setIfInBounds_toArray, List.set_cons_zero, List.set_cons_succ, i64_w, i32_w]
    rfl
  refine done_ (done_of HT_.out (by kernel_rfl)) ?_
  clear HT_
  go_wp2
  have NS := Aside0.mk (Nat.ne_of_gt (blk_lt HA.out) : w3.heap.size ≠ ga)
  have HS : Aside0 ((w3.alloc (.cells #[.func (.func 57) #[.pointer (some ⟨ga, 0, none⟩)] #[], .func (.func 58) #[.pointer (some ⟨ga, 0, none⟩)] #[], .func (.func 59) #[.pointer (some ⟨ga, 0, none⟩)] #[]] 29 (0, 0))).heap[w3.heap.size]? = some (.cells #[.func (.func 57) #[.pointer (some ⟨ga, 0, none⟩)] #[], .func (.func 58) #[.pointer (some ⟨ga, 0, none⟩)] #[], .func (.func 59) #[.pointer (some ⟨ga, 0, none⟩)] #[]] 29 (0, 0))) := ⟨blk_new _ _⟩
  have m0_ := Aside0.mk (blk_alloc HA.out (.cells #[.func (.func 57) #[.pointer (some ⟨ga, 0, none⟩)] #[], .func (.func 58) #[.pointer (some ⟨ga, 0, none⟩)] #[], .func (.func 59) #[.pointer (some ⟨ga, 0, none⟩)] #[]] 29 (0, 0)))
  have m1_ := Aside0.mk (blk_alloc HG.out (.cells #[.func (.func 57) #[.pointer (some ⟨ga, 0, none⟩)] #[], .func (.func 58) #[.pointer (some ⟨ga, 0, none⟩)] #[], .func (.func 59) #[.pointer (some ⟨ga, 0, none⟩)] #[]] 29 (0, 0)))
  have m2_ := Aside0.mk (below_alloc (o := .cells #[.func (.func 57) #[.pointer (some ⟨ga, 0, none⟩)] #[], .func (.func 58) #[.pointer (some ⟨ga, 0, none⟩)] #[], .func (.func 59) #[.pointer (some ⟨ga, 0, none⟩)] #[]] 29 (0, 0)) HB0.out)
  clear HA HG HB0
  have HA := m0_
  have HG := m1_
  have HB0 := m2_
  clear m0_ m1_ m2_
  generalize w3.alloc (.cells #[.func (.func 57) #[.pointer (some ⟨ga, 0, none⟩)] #[], .func (.func 58) #[.pointer (some ⟨ga, 0, none⟩)] #[], .func (.func 59) #[.pointer (some ⟨ga, 0, none⟩)] #[]] 29 (0, 0)) = w4 at HA HG HB0 HS ⊢
  generalize w3.heap.size = gs at NS HS ⊢
  go_loopg [34] 4 (fun n v34 wr => ∃ i : Nat, v34 = .int .i64 (i : Int) ∧ Aside0 (i + n = 4 ∧ i ≤ 2) ∧ Aside0 (i = 0 → AskedAt wr ga g (.slice bA bn bc) draw ⟨#[]⟩ ⟨#[]⟩ ⟨#[]⟩ ⟨#[]⟩ (.slice none 0 0) 0 f0 ⟨#[]⟩ ⟨#[]⟩) ∧ Aside0 (i = 1 → b1 = true ∧ ∃ fs, AskedAt wr ga g (.slice bA bn bc) draw m p q h fs 400 f0 ⟨#[]⟩ ⟨#[]⟩) ∧ Aside0 (i = 2 → b1 = true ∧ b2 = true ∧ ∃ fs, AskedAt wr ga g (.slice bA bn bc) draw m p q h fs 404 f0 pool ⟨#[]⟩) ∧ Aside0 (wr.heap[gb]? = some (.cells #[.int .i64 0, .int .i64 0, .string ⟨#[]⟩, .string ⟨#[]⟩] 62 (0, 0))) ∧ Aside0 (wr.heap[gs]? = some (.cells #[.func (.func 57) #[.pointer (some ⟨ga, 0, none⟩)] #[], .func (.func 58) #[.pointer (some ⟨ga, 0, none⟩)] #[], .func (.func 59) #[.pointer (some ⟨ga, 0, none⟩)] #[]] 29 (0, 0))) ∧ Aside0 (Below w.heap.size w wr))
  case atStart => exact ⟨0, rfl, ⟨by omega, by omega⟩, ⟨fun _ => HA.out⟩, ⟨fun h => absurd h (by decide)⟩, ⟨fun h => absurd h (by decide)⟩, ⟨HG.out⟩, ⟨HS.out⟩, ⟨HB0.out⟩⟩
  case round =>
    clear HA HG HS HB0
    obtain ⟨i, rfl, HN, HI0, HI1, HI2, HG, HS, HB0⟩ := hrel
    obtain rfl | rfl | rfl : i = 0 ∨ i = 1 ∨ i = 2 := by have := HN.out; omega
    · rw [show ((0 : Nat) : Int) = 0 from rfl]
      have q_ : wr.cell? ⟨gs, 0, none⟩ = some (.func (.func 57) #[.pointer (some ⟨ga, 0, none⟩)] #[]) := (blk_cell HS.out 0).trans rfl
      go_wp2_with fail
      refine (S1.out ga wr GA.out HB0.out (HI0.out (by trivial))).mono ?_
      rintro e w5 ⟨A4, n4, c4, rfl, ha, hb, ho⟩
      clear q_
      have HA := Aside0.mk ha
      have m1_ := Aside0.mk ((ho.2 gb (blk_lt HG.out) NE.out).trans HG.out)
      have m2_ := Aside0.mk ((ho.2 gs (blk_lt HS.out) NS.out).trans HS.out)
      have m3_ := Aside0.mk hb
      clear HG HS HB0 ha hb ho
      have HG := m1_
      have HS := m2_
      have HB0 := m3_
      clear m1_ m2_ m3_
      clear HI0 HI1 HI2
      cases b1
      · skip
        have k8 : w5.cell? ⟨ga, 8, none⟩ = some (.int .i64 400) := (blk_cell HA.out 8).trans rfl
        have k9 : w5.cell? ⟨ga, 9, none⟩ = some (.int .i64 f0) := (blk_cell HA.out 9).trans rfl
        have k10 : w5.cell? ⟨ga, 10, none⟩ = some (.string ⟨#[]⟩) := (blk_cell HA.out 10).trans rfl
        have k11 : w5.cell? ⟨ga, 11, none⟩ = some (.string ⟨#[]⟩) := (blk_cell HA.out 11).trans rfl
        have z0 : w5.cell? ⟨gb, 0, none⟩ = some (.int .i64 0) := (blk_cell HG.out 0).trans rfl
        have y0 := blk_frozen HG.out 0
        have z1 : w5.cell? ⟨gb, 1, none⟩ = some (.int .i64 0) := (blk_cell HG.out 1).trans rfl
        have y1 := blk_frozen HG.out 1
        have z2 : w5.cell? ⟨gb, 2, none⟩ = some (.string ⟨#[]⟩) := (blk_cell HG.out 2).trans rfl
        have y2 := blk_frozen HG.out 2
        have z3 : w5.cell? ⟨gb, 3, none⟩ = some (.string ⟨#[]⟩) := (blk_cell HG.out 3).trans rfl
        have y3 := blk_frozen HG.out 3
        go_wp2
        refine bodyPost_ret (results_single rfl (Vals.cell gb 62 #[.int .i64 400, .int .i64 f0, .string ⟨#[]⟩, .string ⟨#[]⟩] (0, 0) _ rfl (blk_put (blk_put (blk_put (blk_put HG.out 0 _ rfl) 1 _ rfl) 2 _ rfl) 3 _ rfl) Tryd.underlying62 rfl (by kernel_rfl) Vals.nil)) rfl ?_
        exact ⟨rfl, below_set (below_set (below_set (below_set HB0.out GB.out) GB.out) GB.out) GB.out⟩
      · skip
        go_wp2
        go_roundg (3 - 0)
        case measure => have := HN.out; omega
        case rel => exact ⟨1, by first | rfl | (simp; done) | (simp [*]; done), ⟨by omega, by omega⟩, ⟨fun h => absurd h (by decide)⟩, ⟨fun _ => ⟨by trivial, _, HA.out⟩⟩, ⟨fun h => absurd h (by decide)⟩, ⟨HG.out⟩, ⟨HS.out⟩, ⟨HB0.out⟩⟩
    · rw [show ((1 : Nat) : Int) = 1 from rfl]
      have q_ : wr.cell? ⟨gs, 1, none⟩ = some (.func (.func 58) #[.pointer (some ⟨ga, 0, none⟩)] #[]) := (blk_cell HS.out 1).trans rfl
      go_wp2_with fail
      obtain ⟨hb1, fs, ha1⟩ := HI1.out (by trivial)
      refine (S2.out hb1 ga wr fs GA.out HB0.out ha1).mono ?_
      rintro e w5 ⟨rfl, ha, hb, ho⟩
      clear q_ ha1
      subst hb1
      have HA := Aside0.mk ha
      have m1_ := Aside0.mk ((ho.2 gb (blk_lt HG.out) NE.out).trans HG.out)
      have m2_ := Aside0.mk ((ho.2 gs (blk_lt HS.out) NS.out).trans HS.out)
      have m3_ := Aside0.mk hb
      clear HG HS HB0 ha hb ho
      have HG := m1_
      have HS := m2_
      have HB0 := m3_
      clear m1_ m2_ m3_
      clear HI0 HI1 HI2
      cases b2
      · skip
        have k8 : w5.cell? ⟨ga, 8, none⟩ = some (.int .i64 404) := (blk_cell HA.out 8).trans rfl
        have k9 : w5.cell? ⟨ga, 9, none⟩ = some (.int .i64 f0) := (blk_cell HA.out 9).trans rfl
        have k10 : w5.cell? ⟨ga, 10, none⟩ = some (.string pool) := (blk_cell HA.out 10).trans rfl
        have k11 : w5.cell? ⟨ga, 11, none⟩ = some (.string ⟨#[]⟩) := (blk_cell HA.out 11).trans rfl
        have z0 : w5.cell? ⟨gb, 0, none⟩ = some (.int .i64 0) := (blk_cell HG.out 0).trans rfl
        have y0 := blk_frozen HG.out 0
        have z1 : w5.cell? ⟨gb, 1, none⟩ = some (.int .i64 0) := (blk_cell HG.out 1).trans rfl
        have y1 := blk_frozen HG.out 1
        have z2 : w5.cell? ⟨gb, 2, none⟩ = some (.string ⟨#[]⟩) := (blk_cell HG.out 2).trans rfl
        have y2 := blk_frozen HG.out 2
        have z3 : w5.cell? ⟨gb, 3, none⟩ = some (.string ⟨#[]⟩) := (blk_cell HG.out 3).trans rfl
        have y3 := blk_frozen HG.out 3
        go_wp2
        refine bodyPost_ret (results_single rfl (Vals.cell gb 62 #[.int .i64 404, .int .i64 f0, .string pool, .string ⟨#[]⟩] (0, 0) _ rfl (blk_put (blk_put (blk_put (blk_put HG.out 0 _ rfl) 1 _ rfl) 2 _ rfl) 3 _ rfl) Tryd.underlying62 rfl (by kernel_rfl) Vals.nil)) rfl ?_
        exact ⟨rfl, below_set (below_set (below_set (below_set HB0.out GB.out) GB.out) GB.out) GB.out⟩
      · skip
        go_wp2
        go_roundg (3 - 1)
        case measure => have := HN.out; omega
        case rel => exact ⟨2, by first | rfl | (simp; done) | (simp [*]; done), ⟨by omega, by omega⟩, ⟨fun h => absurd h (by decide)⟩, ⟨fun h => absurd h (by decide)⟩, ⟨fun _ => ⟨by trivial, by trivial, _, HA.out⟩⟩, ⟨HG.out⟩, ⟨HS.out⟩, ⟨HB0.out⟩⟩
    · rw [show ((2 : Nat) : Int) = 2 from rfl]
      have q_ : wr.cell? ⟨gs, 2, none⟩ = some (.func (.func 59) #[.pointer (some ⟨ga, 0, none⟩)] #[]) := (blk_cell HS.out 2).trans rfl
      go_wp2_with fail
      obtain ⟨hb1, hb2, fs, ha1⟩ := HI2.out (by trivial)
      refine (S3.out hb1 hb2 ga wr fs GA.out HB0.out ha1).mono ?_
      rintro e w5 ⟨rfl, ha, hb, ho⟩
      clear q_ ha1
      subst hb1 hb2
      have HA := Aside0.mk ha
      have m1_ := Aside0.mk ((ho.2 gb (blk_lt HG.out) NE.out).trans HG.out)
      have m2_ := Aside0.mk ((ho.2 gs (blk_lt HS.out) NS.out).trans HS.out)
      have m3_ := Aside0.mk hb
      clear HG HS HB0 ha hb ho
      have HG := m1_
      have HS := m2_
      have HB0 := m3_
      clear m1_ m2_ m3_
      clear HI0 HI1 HI2
      have k8 : w5.cell? ⟨ga, 8, none⟩ = some (.int .i64 st) := (blk_cell HA.out 8).trans rfl
      have k9 : w5.cell? ⟨ga, 9, none⟩ = some (.int .i64 f0) := (blk_cell HA.out 9).trans rfl
      have k10 : w5.cell? ⟨ga, 10, none⟩ = some (.string pool) := (blk_cell HA.out 10).trans rfl
      have k11 : w5.cell? ⟨ga, 11, none⟩ = some (.string addr) := (blk_cell HA.out 11).trans rfl
      have z0 : w5.cell? ⟨gb, 0, none⟩ = some (.int .i64 0) := (blk_cell HG.out 0).trans rfl
      have y0 := blk_frozen HG.out 0
      have z1 : w5.cell? ⟨gb, 1, none⟩ = some (.int .i64 0) := (blk_cell HG.out 1).trans rfl
      have y1 := blk_frozen HG.out 1
      have z2 : w5.cell? ⟨gb, 2, none⟩ = some (.string ⟨#[]⟩) := (blk_cell HG.out 2).trans rfl
      have y2 := blk_frozen HG.out 2
      have z3 : w5.cell? ⟨gb, 3, none⟩ = some (.string ⟨#[]⟩) := (blk_cell HG.out 3).trans rfl
      have y3 := blk_frozen HG.out 3
      go_wp2
      refine bodyPost_ret (results_single rfl (Vals.cell gb 62 #[.int .i64 st, .int .i64 f0, .string pool, .string addr] (0, 0) _ rfl (blk_put (blk_put (blk_put (blk_put HG.out 0 _ rfl) 1 _ rfl) 2 _ rfl) 3 _ rfl) Tryd.underlying62 rfl (by kernel_rfl) Vals.nil)) rfl ?_
      exact ⟨rfl, below_set (below_set (below_set (below_set HB0.out GB.out) GB.out) GB.out) GB.out⟩
end Go.Proofs.YtabkdmfnafeaeaaDoor.S
end
section
/-! Plane.Serve. -/
namespace Go.Proofs.YtabkdmfnafeaeaaDoor.S
open Go.RowKit Go.Proofs.YtabkdmfnafeaeaaDoorW.PrintWords Go.Proofs.YtabkdmfnafeaeaaDoorW.PrintLast Go.Proofs.YtabkdmfnafeaeaaDoorW.PrintMore
set_option linter.unusedVariables false
set_option linter.unusedSimpArgs false
/-- What Serve answers. -/
def plane_Serve.f (k : Nat) (f0 : Int) (f1 : List S93) (f2 : List S67) (l : List Int) (draw : Nat) : Option (Int × Int × ByteArray × ByteArray) :=
  (head_Parse.f k l).bind fun x =>
    if x.2.2.2.2.2.2 = 0 then
      (plane_Find.f k f0 f1 f2 x.2.2.2.1 x.2.1).bind fun r =>
        if r.2.2.2 = true then
          (if idxP r.2.2.1 f2 0 < 0 then (if f2.length ≤ 2000 then some (503, f0, r.2.2.1, ⟨#[]⟩) else none)
          else (plane_Weigh.f k (rd_T67 f2 (idxP r.2.2.1 f2 0)).f1 draw).bind fun t =>
            if t.2 = true then (if 0 ≤ t.1 ∧ t.1 < ((rd_T67 f2 (idxP r.2.2.1 f2 0)).f1.length : Int) ∧ f2.length ≤ 2000 then some (200, f0, r.2.2.1, (rd_T69 (rd_T67 f2 (idxP r.2.2.1 f2 0)).f1 t.1).f0) else none) else (if f2.length ≤ 2000 then some (503, f0, r.2.2.1, ⟨#[]⟩) else none))
        else some (404, f0, r.2.2.1, ⟨#[]⟩)
    else some (400, f0, ⟨#[]⟩, ⟨#[]⟩)
theorem idxP_in (pool : ByteArray) : ∀ (l : List S67) (i : Int), idxP pool l i = -1 ∨ (i ≤ idxP pool l i ∧ idxP pool l i < i + l.length)
  | [], i => .inl rfl
  | x :: l, i => by
    unfold idxP
    split
    · right
      simp
      omega
    · rcases idxP_in pool l (i + 1) with h | h
      · exact .inl h
      · right
        simp
        omega
theorem plane_Serve.calls (k : Nat) {g : Nat} {f0 : Int} {f1 : List S93} {f2 : List S67} {w : World} (hp : PlaneAt w g f0 f1 f2) (hml : ML w) (A : Option Addr) (c : Nat) (l : List Int) (draw : Nat) (hr : Kd.C (Kd.int .u8) w A l.length l) (hc : l.length ≤ c)
    {r1 r2 : Int} {r3 r4 : ByteArray} (h : plane_Serve.f k f0 f1 f2 l draw = some (r1, r2, r3, r4)) :
    Calls Tryd.prog 30 #[.pointer (some ⟨g, 0, none⟩), .slice A l.length c, .float .f64 draw] w fun e w' => e = .returned (.agg #[.int .i64 r1, .int .i64 r2, .string r3, .string r4]) ∧ Below w.heap.size w w' := by
  unfold plane_Serve.f at h
  obtain ⟨⟨m, p, q, hh, fs, n, er⟩, hP, h⟩ := Option.bind_eq_some_iff.1 h
  simp only at h
  have P1 : ∀ (ga : Nat) (w1 : World), w.heap.size ≤ ga → Below w.heap.size w w1 → AskedAt w1 ga g (.slice A l.length c) draw ⟨#[]⟩ ⟨#[]⟩ ⟨#[]⟩ ⟨#[]⟩ (.slice none 0 0) 0 f0 ⟨#[]⟩ ⟨#[]⟩ → Calls Tryd.prog 57 #[.pointer (some ⟨ga, 0, none⟩)] w1 fun e w' => ∃ A4 n4 c4, e = .returned (.bool (er == 0)) ∧ AskedAt w' ga g (.slice A l.length c) draw m p q hh (.slice A4 n4 c4) 400 f0 ⟨#[]⟩ ⟨#[]⟩ ∧ Below w.heap.size w w' ∧ Only ga w1 w' := by
    intro ga w1 hga hB hA
    refine parse_ok hB hga hA (n := n) ?_
    refine (head_Parse.calls k A c l m p q hh fs n er w1 (ML.keep hml hB) (Kd.C_below hr hB) hc hP).mono ?_
    rintro e w' ⟨v4, rfl, hR, hb⟩
    obtain ⟨A4, c4, rfl, _, _⟩ := Kd.R_reads hR
    exact ⟨A4, _, c4, rfl, hb⟩
  by_cases he : er = 0
  · rw [if_pos he] at h
    obtain ⟨⟨s1, s2, pool, ok⟩, hF, h⟩ := Option.bind_eq_some_iff.1 h
    simp only at h
    have P2 : ∀ (ga : Nat) (w1 : World) (fs : Value), w.heap.size ≤ ga → Below w.heap.size w w1 → AskedAt w1 ga g (.slice A l.length c) draw m p q hh fs 400 f0 ⟨#[]⟩ ⟨#[]⟩ → Calls Tryd.prog 58 #[.pointer (some ⟨ga, 0, none⟩)] w1 fun e w' => e = .returned (.bool ok) ∧ AskedAt w' ga g (.slice A l.length c) draw m p q hh fs 404 f0 pool ⟨#[]⟩ ∧ Below w.heap.size w w' ∧ Only ga w1 w' :=
      fun ga w1 fs hga hB hA => route_ok hp hB hga hA k hF
    have b1 : (er == 0) = true := by rw [he]; rfl
    cases ok with
    | false =>
      rw [if_neg (by simp)] at h
      simp only [Option.some.injEq, Prod.mk.injEq] at h
      obtain ⟨rfl, rfl, rfl, rfl⟩ := h
      refine (serve_walk hp A l.length c draw (er == 0) false m p q hh pool ⟨#[]⟩ 0 P1 (fun _ => P2) (fun _ h => absurd h (by simp))).mono ?_
      rintro e w' ⟨rfl, hb⟩
      refine ⟨?_, hb⟩
      rw [b1]
      rfl
    | true =>
      rw [if_pos rfl] at h
      have fin : ∀ (st : Int) (addr : ByteArray), (r1, r2, r3, r4) = (st, f0, pool, addr) → (∀ (ga : Nat) (w1 : World) (fs : Value), w.heap.size ≤ ga → Below w.heap.size w w1 → AskedAt w1 ga g (.slice A l.length c) draw m p q hh fs 404 f0 pool ⟨#[]⟩ → Calls Tryd.prog 59 #[.pointer (some ⟨ga, 0, none⟩)] w1 fun e w' => e = .returned (.bool false) ∧ AskedAt w' ga g (.slice A l.length c) draw m p q hh fs st f0 pool addr ∧ Below w.heap.size w w' ∧ Only ga w1 w') →
          Calls Tryd.prog 30 #[.pointer (some ⟨g, 0, none⟩), .slice A l.length c, .float .f64 draw] w fun e w' => e = .returned (.agg #[.int .i64 r1, .int .i64 r2, .string r3, .string r4]) ∧ Below w.heap.size w w' := by
        intro st addr hq P3
        simp only [Prod.mk.injEq] at hq
        obtain ⟨rfl, rfl, rfl, rfl⟩ := hq
        refine (serve_walk hp A l.length c draw (er == 0) true m p q hh r3 r4 r1 P1 (fun _ => P2) (fun _ _ => P3)).mono ?_
        rintro e w' ⟨rfl, hb⟩
        refine ⟨?_, hb⟩
        rw [b1]
        rfl
      rcases idxP_in pool f2 0 with hi | ⟨hi0, hi1⟩
      · rw [if_pos (by omega)] at h
        by_cases hl2 : f2.length ≤ 2000
        case neg => rw [if_neg hl2] at h; cases h
        rw [if_pos hl2] at h
        exact fin 503 ⟨#[]⟩ (Option.some.inj h).symm fun ga w1 fs hga hB hA => take_none hp hB hga hA hl2 hi
      · rw [if_neg (by omega)] at h
        obtain ⟨⟨t1, t2⟩, hW, h⟩ := Option.bind_eq_some_iff.1 h
        simp only at h
        obtain ⟨i, hi⟩ : ∃ i : Nat, idxP pool f2 0 = (i : Int) := ⟨(idxP pool f2 0).toNat, by omega⟩
        rw [hi] at hW h
        have hin : i < f2.length := by omega
        cases t2 with
        | false =>
          rw [if_neg (by simp)] at h
          by_cases hl2 : f2.length ≤ 2000
          case neg => rw [if_neg hl2] at h; cases h
          rw [if_pos hl2] at h
          exact fin 503 ⟨#[]⟩ (Option.some.inj h).symm fun ga w1 fs hga hB hA => take_nought hp hB hga hA hl2 hi hin k hW
        | true =>
          rw [if_pos rfl] at h
          by_cases hb : 0 ≤ t1 ∧ t1 < ((rd_T67 f2 (i : Int)).f1.length : Int) ∧ f2.length ≤ 2000
          case neg => rw [if_neg hb] at h; cases h
          rw [if_pos hb] at h
          obtain ⟨hr0, hr1, hl2⟩ := hb
          exact fin 200 _ (Option.some.inj h).symm fun ga w1 fs hga hB hA => take_hit hp hB hga hA hl2 hi hin k hW hr0 hr1
  · rw [if_neg he] at h
    simp only [Option.some.injEq, Prod.mk.injEq] at h
    obtain ⟨rfl, rfl, rfl, rfl⟩ := h
    have b1 : (er == 0) = false := by simpa using he
    refine (serve_walk hp A l.length c draw (er == 0) false m p q hh ⟨#[]⟩ ⟨#[]⟩ 0 P1 (fun h => absurd h (by rw [b1]; simp)) (fun h => absurd h (by rw [b1]; simp))).mono ?_
    rintro e w' ⟨rfl, hb⟩
    refine ⟨?_, hb⟩
    rw [b1]
    rfl
end Go.Proofs.YtabkdmfnafeaeaaDoor.S
end
section
/-! PlaneSame: the law. -/
namespace Go.Proofs.YtabkdmfnafeaeaaDoor.S
open Go.RowKit Go.Proofs.YtabkdmfnafeaeaaDoorW.PrintWords Go.Proofs.YtabkdmfnafeaeaaDoorW.PrintLast Go.Proofs.YtabkdmfnafeaeaaDoorW.PrintMore
set_option linter.unusedVariables false
set_option linter.unusedSimpArgs false
theorem PlaneOwn.drew {W : World} {base g : Nat} {f0 : Int} {f1 : List S93} {f2 : List S67} (h : PlaneOwn W base g f0 f1 f2) : PlaneOwn W.drew base g f0 f1 f2 := h
/-- A configuration that may be copied. -/
def smallC (f1 : List S93) (f2 : List S67) : Prop := f1.length ≤ 2000 ∧ f2.length ≤ 2000 ∧ ∀ x, x ∈ f2 → x.f1.length ≤ 2000
instance (f1 : List S93) (f2 : List S67) : Decidable (smallC f1 f2) := by unfold smallC; exact inferInstance
/-- An empty plane. -/
theorem plane_empty {W : World} {g : Nat} {A1 A2 : Option Addr} {c1 c2 : Nat} (h : W.heap[g]? = some (.cells #[.int .i64 0, .slice A1 0 c1, .slice A2 0 c2] 97 (0, 0))) : PlaneAt W g 0 [] [] :=
  ⟨A1, c1, A2, c2, h, ⟨rfl, by simp, fun h => absurd h (Nat.lt_irrefl 0)⟩, Nat.zero_le _, ⟨rfl, by simp, fun h => absurd h (Nat.lt_irrefl 0)⟩, Nat.zero_le _⟩
/-- Apply on a plane that is empty: a newer configuration is taken, another one is not. -/
theorem apply_first {g : Nat} {A1' A2' : Option Addr} {c1' c2' : Nat} {w : World} (h : w.heap[g]? = some (.cells #[.int .i64 0, .slice A1' 0 c1', .slice A2' 0 c2'] 97 (0, 0))) (a : Int) (A1 : Option Addr) (c1 : Nat) (l1 : List S93) (A2 : Option Addr) (c2 : Nat) (l2 : List S67) (hr1 : Kd.C k93 w A1 l1.length l1) (hc1 : l1.length ≤ c1) (hr2 : Kd.C k67 w A2 l2.length l2) (hc2 : l2.length ≤ c2) (hs : smallC l1 l2) :
    Calls Tryd.prog 29 #[.pointer (some ⟨g, 0, none⟩), .agg #[.int .i64 a, .slice A1 l1.length c1, .slice A2 l2.length c2]] w fun e w' => ∃ v f1' f2' x, e = .returned (.int .i64 x) ∧ x = (if 0 < a then 0 else 12) ∧ (v = 0 ∨ v = a) ∧ PlaneAt w' g v f1' f2' ∧ (∀ n, n ≤ g → n ≤ w.heap.size → Below n w w') ∧ (∀ k, k < w.heap.size → k ≠ g → w'.heap[k]? = w.heap[k]?) := by
  by_cases ha : 0 < a
  · refine (apply_ok (plane_empty h) a A1 c1 l1 A2 c2 l2 hr1 hc1 hr2 hc2 hs.1 hs.2.1 hs.2.2 ha).mono ?_
    rintro e w' ⟨rfl, h1, h2, h3, h4⟩
    exact ⟨a, l1, l2, 0, rfl, by rw [if_pos ha], .inr rfl, h1.at_, h2, h3⟩
  · refine (apply_stale (plane_empty h) a _ _ rfl rfl (by omega)).mono ?_
    rintro e w' ⟨rfl, hb⟩
    exact ⟨0, [], [], 12, rfl, by rw [if_neg ha], .inl rfl, (plane_empty h).below hb, fun n h1 h2 => hb.mono h2, fun k hk _ => hb.block k hk⟩
def tollgatelaw10_PlaneSame.f (k : Nat) (a0 : Int) (a1 : List S93) (a2 : List S67) (b0 : Int) (b1 : List S93) (b2 : List S67) (_x0 _x1 : Int) (_x2 : List S93) (_x3 : List S67) (l : List Int) (d : Nat) : Option Bool :=
  (tollgatelaw10_short.f k a0 a1 a2).bind fun s1 =>
    if s1 = true then (tollgatelaw10_short.f k b0 b1 b2).bind fun s2 =>
      if s2 = true then if l.length ≤ 5000 then if a0 < b0 then if 1 ≤ b0 then
        (tollgatelaw10_live.f k).bind fun t1 => if t1 = true then (plane_Serve.f k b0 b1 b2 l d).bind fun _ => (tollgateref08_SameConfig.f k b0 b1 b2 b0 b1 b2).bind fun sm => if smallC a1 a2 ∧ smallC b1 b2 then some sm else none else none
      else tollgatelaw10_live.f k else tollgatelaw10_live.f k else tollgatelaw10_live.f k else tollgatelaw10_live.f k
    else tollgatelaw10_live.f k
noncomputable def same_T5 : Bool × List (List Nat × List Nat) := rtab .any (opsOf Tryd.f13 5)
theorem same_T5_is : rtab .any (opsOf Tryd.f13 5) = same_T5 := rfl
noncomputable def same_T7 : Bool × List (List Nat × List Nat) := rtab .any (opsOf Tryd.f13 7)
theorem same_T7_is : rtab .any (opsOf Tryd.f13 7) = same_T7 := rfl
set_option maxHeartbeats 4000000 in
set_option maxRecDepth 100000 in
theorem tollgatelaw10_PlaneSame.hand (k : Nat) (a0 : Int) (A01 : Option Addr) (c01 : Nat) (a1 : List S93) (A02 : Option Addr) (c02 : Nat) (a2 : List S67) (b0 : Int) (A11 : Option Addr) (c11 : Nat) (b1 : List S93) (A12 : Option Addr) (c12 : Nat) (b2 : List S67) (x0 x1 : Int) (A22 : Option Addr) (c22 : Nat) (x2 : List S93) (A23 : Option Addr) (c23 : Nat) (x3 : List S67) (A24 : Option Addr) (c24 : Nat) (l : List Int) (d : Nat) (r : Bool) (w : World) (hml : ML w)
    (hr01 : Kd.C k93 w A01 a1.length a1) (hc01 : a1.length ≤ c01) (hr02 : Kd.C k67 w A02 a2.length a2) (hc02 : a2.length ≤ c02) (hr11 : Kd.C k93 w A11 b1.length b1) (hc11 : b1.length ≤ c11) (hr12 : Kd.C k67 w A12 b2.length b2) (hc12 : b2.length ≤ c12) (hr22 : Kd.C k93 w A22 x2.length x2) (hc22 : x2.length ≤ c22) (hr23 : Kd.C k67 w A23 x3.length x3) (hc23 : x3.length ≤ c23) (hr24 : Kd.C (Kd.int .u8) w A24 l.length l) (hc24 : l.length ≤ c24)
    (h : tollgatelaw10_PlaneSame.f k a0 a1 a2 b0 b1 b2 x0 x1 x2 x3 l d = some r) :
    Calls Tryd.prog 13 #[.agg #[.int .i64 a0, .slice A01 a1.length c01, .slice A02 a2.length c02], .agg #[.int .i64 b0, .slice A11 b1.length c11, .slice A12 b2.length c12], .agg #[.int .i64 x0, .int .i64 x1, .slice A22 x2.length c22, .slice A23 x3.length c23, .slice A24 l.length c24, .float .f64 d]] w fun e w' => e = .returned (.bool r) ∧ Below w.heap.size w w' := by
  unfold tollgatelaw10_PlaneSame.f at h
  obtain ⟨s1, hs1, h⟩ := Option.bind_eq_some_iff.1 h
  have HML := Aside0.mk hml
  have HR1 := Aside0.mk hr01
  have HR2 := Aside0.mk hr02
  have HR3 := Aside0.mk hr11
  have HR4 := Aside0.mk hr12
  have HR5 := Aside0.mk hr24
  have HS1 := Aside0.mk hs1
  clear hml hr01 hr02 hr11 hr12 hr22 hr23 hr24 hs1
  have HH := Aside0.mk h
  clear h
  have HB := Aside0.mk (Below.refl w.heap.size w)
  have hu55 := Tryd.underlying55
  have hu72 := Tryd.underlying72
  have hu97 := Tryd.underlying97
  have hu62 := Tryd.underlying62
  go_enter Tryd.func13, Tryd.ntmps13
  go_wp2_with (first | ((with_reducible refine gate_dst (N := 3) rfl ?_); refine box_event ?hg (N := 3) ?hd (cs := #[.int .i64 a0, .slice A01 a1.length c01, .slice A02 a2.length c02]) (t := 55) ?hr ?_; (case hd => rfl); (case hg => rfl); (case hr => first | (go_simp; done) | (go_simp; rfl)); intro ba hg w1 hbox hb; have mb_ := Aside0.mk (below_step HB.out hb); have BA := Aside0.mk hbox; clear HB; have HB := mb_; clear hb hbox hg mb_) | ((with_reducible refine gate_dst (N := 4) rfl ?_); refine box_event ?hg (N := 4) ?hd (cs := #[.int .i64 b0, .slice A11 b1.length c11, .slice A12 b2.length c12]) (t := 55) ?hr ?_; (case hd => rfl); (case hg => rfl); (case hr => first | (go_simp; done) | (go_simp; rfl)); intro bb hg w2 hbox hb; have m0_ := Aside0.mk (blk_below BA.out hb); have mb_ := Aside0.mk (below_step HB.out hb); have BB := Aside0.mk hbox; clear HB BA; have HB := mb_; have BA := m0_; clear hb hbox hg mb_ m0_) | (((with_reducible refine gate_dst (N := 5) rfl ?_); refine box_event ?hg (N := 5) ?hd (cs := #[.int .i64 x0, .int .i64 x1, .slice A22 x2.length c22, .slice A23 x3.length c23, .slice A24 l.length c24, .float .f64 d]) (t := 72) ?hr ?_; (case hd => rfl); (case hg => rfl); (case hr => first | (go_simp; done) | (go_simp; rfl)); intro bx hg w3 hbox hb; have m0_ := Aside0.mk (blk_below BA.out hb); have m1_ := Aside0.mk (blk_below BB.out hb); have mb_ := Aside0.mk (below_step HB.out hb); have BX := Aside0.mk hbox; clear HB BA BB; have HB := mb_; have BA := m0_; have BB := m1_; clear hb hbox hg mb_ m0_ m1_); have q0 : w3.cell? ⟨ba, 0, none⟩ = some (.int .i64 a0) := (blk_cell BA.out 0).trans rfl; have q1 : w3.cell? ⟨ba, 1, none⟩ = some (.slice A01 a1.length c01) := (blk_cell BA.out 1).trans rfl; have q2 : w3.cell? ⟨ba, 2, none⟩ = some (.slice A02 a2.length c02) := (blk_cell BA.out 2).trans rfl) | fail)
  refine (tollgatelaw10_short.calls k a0 A01 c01 a1 A02 c02 a2 s1 _ (Kd.C_below HR1.out HB.out) hc01 (Kd.C_below HR2.out HB.out) hc02 HS1.out).mono ?_
  rintro e w4 ⟨rfl, hb⟩
  have m0_ := Aside0.mk (blk_below BA.out hb)
  have m1_ := Aside0.mk (blk_below BB.out hb)
  have m2_ := Aside0.mk (blk_below BX.out hb)
  have m3_ := Aside0.mk (below_step HB.out hb)
  clear BA BB BX HB hb q0 q1 q2
  have BA := m0_
  have BB := m1_
  have BX := m2_
  have HB := m3_
  clear m0_ m1_ m2_ m3_
  cases s1
  · have h_ := HH.out
    rw [if_neg (by simp)] at h_
    clear HH
    have HH := Aside0.mk h_
    clear h_
    go_wp2_with fail
    refine (tollgatelaw10_live.calls k r _ HH.out).mono ?_
    rintro e w9 ⟨rfl, hb⟩
    have m_ := Aside0.mk (below_step HB.out hb)
    clear HB hb
    go_wp2
    go_ret
    exact ⟨rfl, m_.out⟩
  have h_ := HH.out
  rw [if_pos rfl] at h_
  clear HH
  obtain ⟨s2, hs2, h_⟩ := Option.bind_eq_some_iff.1 h_
  have HS2 := Aside0.mk hs2
  have HH := Aside0.mk h_
  clear hs2 h_
  have q0 : w4.cell? ⟨bb, 0, none⟩ = some (.int .i64 b0) := (blk_cell BB.out 0).trans rfl
  have q1 : w4.cell? ⟨bb, 1, none⟩ = some (.slice A11 b1.length c11) := (blk_cell BB.out 1).trans rfl
  have q2 : w4.cell? ⟨bb, 2, none⟩ = some (.slice A12 b2.length c12) := (blk_cell BB.out 2).trans rfl
  go_wp2_with fail
  refine (tollgatelaw10_short.calls k b0 A11 c11 b1 A12 c12 b2 s2 _ (Kd.C_below HR3.out HB.out) hc11 (Kd.C_below HR4.out HB.out) hc12 HS2.out).mono ?_
  rintro e w5 ⟨rfl, hb⟩
  have m0_ := Aside0.mk (blk_below BA.out hb)
  have m1_ := Aside0.mk (blk_below BB.out hb)
  have m2_ := Aside0.mk (blk_below BX.out hb)
  have m3_ := Aside0.mk (below_step HB.out hb)
  clear BA BB BX HB hb q0 q1 q2
  have BA := m0_
  have BB := m1_
  have BX := m2_
  have HB := m3_
  clear m0_ m1_ m2_ m3_
  cases s2
  · have h_ := HH.out
    rw [if_neg (by simp)] at h_
    clear HH
    have HH := Aside0.mk h_
    clear h_
    go_wp2_with fail
    refine (tollgatelaw10_live.calls k r _ HH.out).mono ?_
    rintro e w9 ⟨rfl, hb⟩
    have m_ := Aside0.mk (below_step HB.out hb)
    clear HB hb
    go_wp2
    go_ret
    exact ⟨rfl, m_.out⟩
  have h_ := HH.out
  rw [if_pos rfl] at h_
  clear HH
  have HH := Aside0.mk h_
  clear h_
  have q4 : w5.cell? ⟨bx, 4, none⟩ = some (.slice A24 l.length c24) := (blk_cell BX.out 4).trans rfl
  by_cases hq_ : l.length ≤ 5000
  rotate_left
  · have h_ := HH.out
    rw [if_neg hq_] at h_
    clear HH
    have HH := Aside0.mk h_
    clear h_
    have c1 : decide (5000 < (l.length : Int)) = true := decide_eq_true (by omega)
    clear hq_
    go_wp2_with fail
    refine (tollgatelaw10_live.calls k r _ HH.out).mono ?_
    rintro e w9 ⟨rfl, hb⟩
    have m_ := Aside0.mk (below_step HB.out hb)
    clear HB hb
    go_wp2
    go_ret
    exact ⟨rfl, m_.out⟩
  have h_ := HH.out
  rw [if_pos hq_] at h_
  clear HH
  have HH := Aside0.mk h_
  clear h_
  have c1 : decide (5000 < (l.length : Int)) = false := decide_eq_false (by omega)
  clear hq_
  have q0 : w5.cell? ⟨ba, 0, none⟩ = some (.int .i64 a0) := (blk_cell BA.out 0).trans rfl
  have p0 : w5.cell? ⟨bb, 0, none⟩ = some (.int .i64 b0) := (blk_cell BB.out 0).trans rfl
  by_cases hq_ : a0 < b0
  rotate_left
  · have h_ := HH.out
    rw [if_neg hq_] at h_
    clear HH
    have HH := Aside0.mk h_
    clear h_
    have c2 : decide (b0 ≤ a0) = true := decide_eq_true (by omega)
    clear hq_
    go_wp2_with fail
    refine (tollgatelaw10_live.calls k r _ HH.out).mono ?_
    rintro e w9 ⟨rfl, hb⟩
    have m_ := Aside0.mk (below_step HB.out hb)
    clear HB hb
    go_wp2
    go_ret
    exact ⟨rfl, m_.out⟩
  have h_ := HH.out
  rw [if_pos hq_] at h_
  clear HH
  have HH := Aside0.mk h_
  clear h_
  have c2 : decide (b0 ≤ a0) = false := decide_eq_false (by omega)
  clear hq_
  have C2 := Aside0.mk (show a0 < b0 by simpa using c2)
  by_cases hq_ : 1 ≤ b0
  rotate_left
  · have h_ := HH.out
    rw [if_neg hq_] at h_
    clear HH
    have HH := Aside0.mk h_
    clear h_
    have c3 : decide (b0 < 1) = true := decide_eq_true (by omega)
    clear hq_
    go_wp2_with fail
    refine (tollgatelaw10_live.calls k r _ HH.out).mono ?_
    rintro e w9 ⟨rfl, hb⟩
    have m_ := Aside0.mk (below_step HB.out hb)
    clear HB hb
    go_wp2
    go_ret
    exact ⟨rfl, m_.out⟩
  have h_ := HH.out
  rw [if_pos hq_] at h_
  clear HH
  have HH := Aside0.mk h_
  clear h_
  have c3 : decide (b0 < 1) = false := decide_eq_false (by omega)
  clear hq_
  have C3 := Aside0.mk (show 1 ≤ b0 by simpa using c3)
  have h_ := HH.out
  clear HH
  obtain ⟨t1, ht1, h_⟩ := Option.bind_eq_some_iff.1 h_
  cases t1
  · rw [if_neg (by simp)] at h_; cases h_
  rw [if_pos rfl] at h_
  obtain ⟨⟨v1, v2, v3, v4⟩, hv, h_⟩ := Option.bind_eq_some_iff.1 h_
  obtain ⟨sm, hsm, h_⟩ := Option.bind_eq_some_iff.1 h_
  by_cases hq_ : smallC a1 a2 ∧ smallC b1 b2
  rotate_left
  · rw [if_neg hq_] at h_; cases h_
  rw [if_pos hq_] at h_
  obtain rfl := Option.some.inj h_
  obtain ⟨⟨z1, z2, z3⟩, z4, z5, z6⟩ := hq_
  have HT1 := Aside0.mk ht1
  have HV := Aside0.mk hv
  have HSM := Aside0.mk hsm
  have Z3 := Aside0.mk z3
  have Z6 := Aside0.mk z6
  clear ht1 hv hsm z3 z6 h_
  have HLT := Aside0.mk (show ∀ v : Int, (v = 0 ∨ v = a0) → v < b0 from fun v hv => by have := C2.out; have := C3.out; omega)
  go_wp2_with fail
  refine (new_ok _).mono ?_
  rintro e w6 ⟨gp, rfl, hg_, hpl, hb⟩
  obtain ⟨pA1, pc1, pA2, pc2, hp_, _⟩ := hpl
  have hp0_ : w6.heap[gp]? = some (.cells #[.int .i64 0, .slice pA1 0 pc1, .slice pA2 0 pc2] 97 (0, 0)) := hp_
  clear hp_
  have GP := Aside0.mk (Nat.le_trans (below_size HB.out) hg_ : w.heap.size ≤ gp)
  have NBAp := Aside0.mk (Nat.ne_of_lt (Nat.lt_of_lt_of_le (blk_lt BA.out) hg_) : ba ≠ gp)
  have NBBp := Aside0.mk (Nat.ne_of_lt (Nat.lt_of_lt_of_le (blk_lt BB.out) hg_) : bb ≠ gp)
  have NBXp := Aside0.mk (Nat.ne_of_lt (Nat.lt_of_lt_of_le (blk_lt BX.out) hg_) : bx ≠ gp)
  have m0_ := Aside0.mk (blk_below BA.out hb)
  have m1_ := Aside0.mk (blk_below BB.out hb)
  have m2_ := Aside0.mk (blk_below BX.out hb)
  have m3_ := Aside0.mk (below_step HB.out hb)
  clear BA BB BX HB hb hg_
  have BA := m0_
  have BB := m1_
  have BX := m2_
  have HB := m3_
  clear m0_ m1_ m2_ m3_
  have HP0 := Aside0.mk hp0_
  clear hp0_
  clear q0 p0 q4 c1 c2 c3
  go_wp2_with fail
  refine (new_ok _).mono ?_
  rintro e w7 ⟨gq, rfl, hg_, hpl, hb⟩
  obtain ⟨qA1, qc1, qA2, qc2, hp_, _⟩ := hpl
  have hp0_ : w7.heap[gq]? = some (.cells #[.int .i64 0, .slice qA1 0 qc1, .slice qA2 0 qc2] 97 (0, 0)) := hp_
  clear hp_
  have GQ := Aside0.mk (Nat.le_trans (below_size HB.out) hg_ : w.heap.size ≤ gq)
  have NBAq := Aside0.mk (Nat.ne_of_lt (Nat.lt_of_lt_of_le (blk_lt BA.out) hg_) : ba ≠ gq)
  have NBBq := Aside0.mk (Nat.ne_of_lt (Nat.lt_of_lt_of_le (blk_lt BB.out) hg_) : bb ≠ gq)
  have NBXq := Aside0.mk (Nat.ne_of_lt (Nat.lt_of_lt_of_le (blk_lt BX.out) hg_) : bx ≠ gq)
  have NHP0q := Aside0.mk (Nat.ne_of_lt (Nat.lt_of_lt_of_le (blk_lt HP0.out) hg_) : gp ≠ gq)
  have m0_ := Aside0.mk (blk_below BA.out hb)
  have m1_ := Aside0.mk (blk_below BB.out hb)
  have m2_ := Aside0.mk (blk_below BX.out hb)
  have m3_ := Aside0.mk (below_step HB.out hb)
  have m4_ := Aside0.mk (blk_below HP0.out hb)
  clear BA BB BX HB HP0 hb hg_
  have BA := m0_
  have BB := m1_
  have BX := m2_
  have HB := m3_
  have HP0 := m4_
  clear m0_ m1_ m2_ m3_ m4_
  have HQ0 := Aside0.mk hp0_
  clear hp0_
  have q0 : w7.cell? ⟨ba, 0, none⟩ = some (.int .i64 a0) := (blk_cell BA.out 0).trans rfl
  have q1 : w7.cell? ⟨ba, 1, none⟩ = some (.slice A01 a1.length c01) := (blk_cell BA.out 1).trans rfl
  have q2 : w7.cell? ⟨ba, 2, none⟩ = some (.slice A02 a2.length c02) := (blk_cell BA.out 2).trans rfl
  go_wp2_with fail
  refine (apply_first HP0.out a0 A01 c01 a1 A02 c02 a2 (Kd.C_below HR1.out HB.out) hc01 (Kd.C_below HR2.out HB.out) hc02 ⟨z1, z2, Z3.out⟩).mono ?_
  rintro e w8 ⟨v, f1_, f2_, x_, rfl, hx_, hv, hpl, hb, hk⟩
  have VLT := Aside0.mk (HLT.out v hv)
  have m0_ := Aside0.mk ((hk _ (blk_lt BA.out) NBAp.out).trans BA.out)
  have m1_ := Aside0.mk ((hk _ (blk_lt BB.out) NBBp.out).trans BB.out)
  have m2_ := Aside0.mk ((hk _ (blk_lt BX.out) NBXp.out).trans BX.out)
  have m3_ := Aside0.mk (HB.out.trans (hb _ GP.out (below_size HB.out)))
  have m4_ := Aside0.mk ((hk _ (blk_lt HQ0.out) NHP0q.out.symm).trans HQ0.out)
  have mo_ := Aside0.mk (hpl)
  clear BA BB BX HB HQ0 HP0 hb hk hpl hv hx_ q0 q1 q2
  have BA := m0_
  have BB := m1_
  have BX := m2_
  have HB := m3_
  have HQ0 := m4_
  have PL := mo_
  clear mo_ m0_ m1_ m2_ m3_ m4_
  go_wp2
  refine start_ (n := 8) (S := fun w' => w'.cell? ⟨bb, 0, none⟩ = some (.int .i64 b0) ∧ w'.cell? ⟨bb, 1, none⟩ = some (.slice A11 b1.length c11) ∧ w'.cell? ⟨bb, 2, none⟩ = some (.slice A12 b2.length c12)) (ds := [5]) #[false, false, false, false, false, false, false, false] (by kernel_rfl) rfl rfl ⟨(blk_cell BB.out 0).trans rfl, (blk_cell BB.out 1).trans rfl, (blk_cell BB.out 2).trans rfl⟩ (fun hHeld => ?_)
  refine with_tab (T := same_T5) same_T5_is (fun HT_ => ?_)
  have ml_ := Aside0.mk (show PlaneAt w8.drew gp v f1_ f2_ from PL.out)
  clear PL
  have PL := ml_
  clear ml_
  have m0_ := Aside0.mk (blk_drew BA.out)
  have m1_ := Aside0.mk (blk_drew BB.out)
  have m2_ := Aside0.mk (blk_drew BX.out)
  have m3_ := Aside0.mk (below_drew1 HB.out)
  have m4_ := Aside0.mk (blk_drew HQ0.out)
  clear BA BB BX HB HQ0
  have BA := m0_
  have BB := m1_
  have BX := m2_
  have HB := m3_
  have HQ0 := m4_
  clear m0_ m1_ m2_ m3_ m4_
  generalize w8.drew = w9 at PL hHeld BA BB BX HB HQ0 ⊢
  refine pure_ (i := 0) (N := some 44) (v := ?_) (a' := ?_) #[true, false, false, false, false, false, false, false] rfl rfl (any_of HT_.out (by kernel_rfl)) (fun _ _ _ h => h) (Or.inl ⟨by rfl, ?_⟩) ?_ ?_
  rotate_left
  · intro w'
    go_simp
    with_reducible rfl
  rotate_left
  · simp only [Act.put, List.setIfInBounds_toArray, List.set_cons_zero, List.set_cons_succ, i64_w, i32_w]
    rfl
  refine take_ (i := 1) (N := some 45) (v := ?_) (a' := ?_) #[true, true, false, false, false, false, false, false] rfl rfl (take_of HT_.out (by kernel_rfl)) (fun _ _ _ h => h) (Or.inl ⟨by rfl, ?_⟩) hHeld ?_ ?_
  rotate_left
  · rintro w' ⟨s0, s1, s2⟩
    go_simp
    with_reducible rfl
  rotate_left
  · simp only [Act.put, List.setIfInBounds_toArray, List.set_cons_zero, List.set_cons_succ, i64_w, i32_w]
    rfl
  refine pure_ (i := 3) (N := some 47) (v := ?_) (a' := ?_) #[true, true, false, true, false, false, false, false] rfl rfl (any_of HT_.out (by kernel_rfl)) (fun _ _ _ h => h) (Or.inl ⟨by rfl, ?_⟩) ?_ ?_
  rotate_left
  · intro w'
    go_simp
    with_reducible rfl
  rotate_left
  · simp only [Act.put, List.setIfInBounds_toArray, List.set_cons_zero, List.set_cons_succ, i64_w, i32_w]
    rfl
  refine take_ (i := 4) (N := some 48) (v := ?_) (a' := ?_) #[true, true, false, true, true, false, false, false] rfl rfl (take_of HT_.out (by kernel_rfl)) (fun _ _ _ h => h) (Or.inl ⟨by rfl, ?_⟩) hHeld ?_ ?_
  rotate_left
  · rintro w' ⟨s0, s1, s2⟩
    go_simp
    with_reducible rfl
  rotate_left
  · simp only [Act.put, List.setIfInBounds_toArray, List.set_cons_zero, List.set_cons_succ, i64_w, i32_w]
    rfl
  refine one_ (i := 2) (N := some 46) #[true, true, true, true, true, false, false, false] rfl rfl (one_of HT_.out (by kernel_rfl)) (by decide) (fun K hK => ?_)
  refine goes_ Tryd.func29 (by kernel_rfl) rfl #[.pointer (some ⟨gp, 0, none⟩), .agg #[.int .i64 b0, .slice A11 b1.length c11, .slice A12 b2.length c12]] (by rfl) rfl rfl (by (try simp only [List.map_toArray, List.map_cons, List.map_nil]); first | done | rfl) ?_
  refine (apply_ok PL.out b0 A11 c11 b1 A12 c12 b2 (Kd.C_below HR3.out HB.out) hc11 (Kd.C_below HR4.out HB.out) hc12 z4 z5 Z6.out VLT.out).mono ?_
  rintro e w10 ⟨rfl, ho, hb, hk, hoth⟩
  refine ⟨_, rfl, ?_⟩
  have m0_ := Aside0.mk ((hk _ (blk_lt BA.out) NBAp.out).trans BA.out)
  have m1_ := Aside0.mk ((hk _ (blk_lt BB.out) NBBp.out).trans BB.out)
  have m2_ := Aside0.mk ((hk _ (blk_lt BX.out) NBXp.out).trans BX.out)
  have m3_ := Aside0.mk (HB.out.trans (hb _ GP.out (below_size HB.out)))
  have m4_ := Aside0.mk ((hk _ (blk_lt HQ0.out) NHP0q.out.symm).trans HQ0.out)
  have mo_ := Aside0.mk (ho)
  clear BA BB BX HB HQ0 hb hk ho hoth PL VLT
  have BA := m0_
  have BB := m1_
  have BX := m2_
  have HB := m3_
  have HQ0 := m4_
  have PO := mo_
  clear mo_ m0_ m1_ m2_ m3_ m4_
  generalize w9.heap.size = basep at PO
  refine hK.out _ _ ⟨(blk_cell BB.out 0).trans rfl, (blk_cell BB.out 1).trans rfl, (blk_cell BB.out 2).trans rfl⟩ (fun hHeld => ?_)
  clear hK K
  refine norm_ (a' := ?_) ?_ ?_
  rotate_left
  · show Act.put _ (some 46) _ = _
    simp only [Act.put, List.setIfInBounds_toArray, List.set_cons_zero, List.set_cons_succ, i64_w, i32_w]
    rfl
  refine last_ (i := 5) (N := some 49) #[true, true, true, true, true, true, false, false] rfl rfl (one_of HT_.out (by kernel_rfl)) (by decide) (fun K hK => ?_)
  refine goes_ Tryd.func29 (by kernel_rfl) rfl #[.pointer (some ⟨gq, 0, none⟩), .agg #[.int .i64 b0, .slice A11 b1.length c11, .slice A12 b2.length c12]] (by rfl) rfl rfl (by (try simp only [List.map_toArray, List.map_cons, List.map_nil]); first | done | rfl) ?_
  refine (apply_ok (plane_empty HQ0.out) b0 A11 c11 b1 A12 c12 b2 (Kd.C_below HR3.out HB.out) hc11 (Kd.C_below HR4.out HB.out) hc12 z4 z5 Z6.out (HLT.out 0 (.inl rfl))).mono ?_
  rintro e w11 ⟨rfl, ho, hb, hk, hoth⟩
  refine ⟨_, rfl, ?_⟩
  have m0_ := Aside0.mk ((hk _ (blk_lt BA.out) NBAq.out).trans BA.out)
  have m1_ := Aside0.mk ((hk _ (blk_lt BB.out) NBBq.out).trans BB.out)
  have m2_ := Aside0.mk ((hk _ (blk_lt BX.out) NBXq.out).trans BX.out)
  have m3_ := Aside0.mk (HB.out.trans (hb _ GQ.out (below_size HB.out)))
  have m4_ := Aside0.mk (hoth _ _ _ _ _ NHP0q.out PO.out)
  have mo_ := Aside0.mk (ho)
  clear BA BB BX HB PO HQ0 hb hk ho hoth hHeld
  have BA := m0_
  have BB := m1_
  have BX := m2_
  have HB := m3_
  have PO := m4_
  have QO := mo_
  clear mo_ m0_ m1_ m2_ m3_ m4_
  generalize w10.heap.size = baseq at QO
  refine hK.out _ _ ?_
  clear hK K
  refine norm_ (a' := ?_) ?_ ?_
  rotate_left
  · show Act.put _ (some 49) _ = _
    simp only [Act.put, List.setIfInBounds_toArray, List.set_cons_zero, List.set_cons_succ, i64_w, i32_w]
    rfl
  refine pure_ (i := 6) (N := some 9) (v := ?_) (a' := ?_) #[true, true, true, true, true, true, true, false] rfl rfl (any_of HT_.out (by kernel_rfl)) (fun _ _ _ h => h) (Or.inl ⟨by rfl, ?_⟩) ?_ ?_
  rotate_left
  · intro w'
    go_simp
    with_reducible rfl
  rotate_left
  · simp only [Act.put, List.setIfInBounds_toArray, List.set_cons_zero, List.set_cons_succ, i64_w, i32_w]
    rfl
  refine pure_ (i := 7) (N := some 10) (v := ?_) (a' := ?_) #[true, true, true, true, true, true, true, true] rfl rfl (any_of HT_.out (by kernel_rfl)) (fun _ _ _ h => h) (Or.inl ⟨by rfl, ?_⟩) ?_ ?_
  rotate_left
  · intro w'
    go_simp
    with_reducible rfl
  rotate_left
  · simp only [Act.put, List.setIfInBounds_toArray, List.set_cons_zero, List.set_cons_succ, i64_w, i32_w]
    rfl
  refine done_ (done_of HT_.out (by kernel_rfl)) ?_
  clear HT_
  have q0 : w11.cell? ⟨bb, 0, none⟩ = some (.int .i64 b0) := (blk_cell BB.out 0).trans rfl
  have q1 : w11.cell? ⟨bb, 1, none⟩ = some (.slice A11 b1.length c11) := (blk_cell BB.out 1).trans rfl
  have q2 : w11.cell? ⟨bb, 2, none⟩ = some (.slice A12 b2.length c12) := (blk_cell BB.out 2).trans rfl
  go_wp2_with fail
  refine (apply_stale PO.out.at_ b0 _ _ rfl rfl (Int.le_refl _)).mono ?_
  rintro e w12 ⟨rfl, hb⟩
  have m0_ := Aside0.mk (blk_below BA.out hb)
  have m1_ := Aside0.mk (blk_below BB.out hb)
  have m2_ := Aside0.mk (blk_below BX.out hb)
  have m3_ := Aside0.mk (below_step HB.out hb)
  have m4_ := Aside0.mk (PO.out.below hb)
  have m5_ := Aside0.mk (QO.out.below hb)
  clear BA BB BX HB PO QO hb q0 q1 q2
  have BA := m0_
  have BB := m1_
  have BX := m2_
  have HB := m3_
  have PO := m4_
  have QO := m5_
  clear m0_ m1_ m2_ m3_ m4_ m5_
  go_wp2
  refine start_ (n := 36) (S := fun w' => w'.cell? ⟨bx, 4, none⟩ = some (.slice A24 l.length c24) ∧ w'.cell? ⟨bx, 5, none⟩ = some (.float .f64 d)) (ds := [33]) #[false, false, false, false, false, false, false, false, false, false, false, false, false, false, false, false, false, false, false, false, false, false, false, false, false, false, false, false, false, false, false, false, false, false, false, false] (by kernel_rfl) rfl rfl ⟨(blk_cell BX.out 4).trans rfl, (blk_cell BX.out 5).trans rfl⟩ (fun hHeld => ?_)
  refine with_tab (T := same_T7) same_T7_is (fun HT_ => ?_)
  have m0_ := Aside0.mk (blk_drew BA.out)
  have m1_ := Aside0.mk (blk_drew BB.out)
  have m2_ := Aside0.mk (blk_drew BX.out)
  have m3_ := Aside0.mk (below_drew1 HB.out)
  have m4_ := Aside0.mk (PO.out.drew)
  have m5_ := Aside0.mk (QO.out.drew)
  clear BA BB BX HB PO QO
  have BA := m0_
  have BB := m1_
  have BX := m2_
  have HB := m3_
  have PO := m4_
  have QO := m5_
  clear m0_ m1_ m2_ m3_ m4_ m5_
  generalize w12.drew = w13 at hHeld BA BB BX HB PO QO ⊢
  refine one_ (i := 0) (N := some 53) #[true, false, false, false, false, false, false, false, false, false, false, false, false, false, false, false, false, false, false, false, false, false, false, false, false, false, false, false, false, false, false, false, false, false, false, false] rfl rfl (one_of HT_.out (by kernel_rfl)) (by decide) (fun K hK => ?_)
  refine goes_ Tryd.func27 (by kernel_rfl) rfl #[] (by rfl) rfl rfl (by (try simp only [List.map_toArray, List.map_cons, List.map_nil]); first | done | rfl) ?_
  refine (tollgatelaw10_live.calls k true _ HT1.out).mono ?_
  rintro e w14 ⟨rfl, hb⟩
  refine ⟨_, rfl, ?_⟩
  have m0_ := Aside0.mk (blk_below BA.out hb)
  have m1_ := Aside0.mk (blk_below BB.out hb)
  have m2_ := Aside0.mk (blk_below BX.out hb)
  have m3_ := Aside0.mk (below_step HB.out hb)
  have m4_ := Aside0.mk (PO.out.below hb)
  have m5_ := Aside0.mk (QO.out.below hb)
  clear BA BB BX HB PO QO hb
  have BA := m0_
  have BB := m1_
  have BX := m2_
  have HB := m3_
  have PO := m4_
  have QO := m5_
  clear m0_ m1_ m2_ m3_ m4_ m5_
  refine hK.out _ _ ⟨(blk_cell BX.out 4).trans rfl, (blk_cell BX.out 5).trans rfl⟩ (fun hHeld => ?_)
  clear hK K
  refine norm_ (a' := ?_) ?_ ?_
  rotate_left
  · show Act.put _ (some 53) _ = _
    simp only [Act.put, List.setIfInBounds_toArray, List.set_cons_zero, List.set_cons_succ, i64_w, i32_w]
    rfl
  refine pure_ (i := 1) (N := some 54) (v := ?_) (a' := ?_) #[true, true, false, false, false, false, false, false, false, false, false, false, false, false, false, false, false, false, false, false, false, false, false, false, false, false, false, false, false, false, false, false, false, false, false, false] rfl rfl (any_of HT_.out (by kernel_rfl)) (fun _ _ _ h => h) (Or.inl ⟨by rfl, ?_⟩) ?_ ?_
  rotate_left
  · intro w'
    go_simp
    with_reducible rfl
  rotate_left
  · simp only [Act.put, List.setIfInBounds_toArray, List.set_cons_zero, List.set_cons_succ, i64_w, i32_w]
    rfl
  refine pure_ (i := 2) (N := some 55) (v := ?_) (a' := ?_) #[true, true, true, false, false, false, false, false, false, false, false, false, false, false, false, false, false, false, false, false, false, false, false, false, false, false, false, false, false, false, false, false, false, false, false, false] rfl rfl (any_of HT_.out (by kernel_rfl)) (fun _ _ _ h => h) (Or.inl ⟨by rfl, ?_⟩) ?_ ?_
  rotate_left
  · intro w'
    go_simp
    with_reducible rfl
  rotate_left
  · simp only [Act.put, List.setIfInBounds_toArray, List.set_cons_zero, List.set_cons_succ, i64_w, i32_w]
    rfl
  refine pure_ (i := 3) (N := some 56) (v := ?_) (a' := ?_) #[true, true, true, true, false, false, false, false, false, false, false, false, false, false, false, false, false, false, false, false, false, false, false, false, false, false, false, false, false, false, false, false, false, false, false, false] rfl rfl (any_of HT_.out (by kernel_rfl)) (fun _ _ _ h => h) (Or.inl ⟨by rfl, ?_⟩) ?_ ?_
  rotate_left
  · intro w'
    go_simp
    with_reducible rfl
  rotate_left
  · simp only [Act.put, List.setIfInBounds_toArray, List.set_cons_zero, List.set_cons_succ, i64_w, i32_w]
    rfl
  refine pure_ (i := 4) (N := some 57) (v := ?_) (a' := ?_) #[true, true, true, true, true, false, false, false, false, false, false, false, false, false, false, false, false, false, false, false, false, false, false, false, false, false, false, false, false, false, false, false, false, false, false, false] rfl rfl (any_of HT_.out (by kernel_rfl)) (fun _ _ _ h => h) (Or.inl ⟨by rfl, ?_⟩) ?_ ?_
  rotate_left
  · intro w'
    go_simp
    with_reducible rfl
  rotate_left
  · simp only [Act.put, List.setIfInBounds_toArray, List.set_cons_zero, List.set_cons_succ, i64_w, i32_w]
    rfl
  refine pure_ (i := 5) (N := some 58) (v := ?_) (a' := ?_) #[true, true, true, true, true, true, false, false, false, false, false, false, false, false, false, false, false, false, false, false, false, false, false, false, false, false, false, false, false, false, false, false, false, false, false, false] rfl rfl (any_of HT_.out (by kernel_rfl)) (fun _ _ _ h => h) (Or.inl ⟨by rfl, ?_⟩) ?_ ?_
  rotate_left
  · intro w'
    go_simp
    with_reducible rfl
  rotate_left
  · simp only [Act.put, List.setIfInBounds_toArray, List.set_cons_zero, List.set_cons_succ, i64_w, i32_w]
    rfl
  refine pure_ (i := 6) (N := some 59) (v := ?_) (a' := ?_) #[true, true, true, true, true, true, true, false, false, false, false, false, false, false, false, false, false, false, false, false, false, false, false, false, false, false, false, false, false, false, false, false, false, false, false, false] rfl rfl (any_of HT_.out (by kernel_rfl)) (fun _ _ _ h => h) (Or.inl ⟨by rfl, ?_⟩) ?_ ?_
  rotate_left
  · intro w'
    go_simp
    with_reducible rfl
  rotate_left
  · simp only [Act.put, List.setIfInBounds_toArray, List.set_cons_zero, List.set_cons_succ, i64_w, i32_w]
    rfl
  refine pure_ (i := 7) (N := some 60) (v := ?_) (a' := ?_) #[true, true, true, true, true, true, true, true, false, false, false, false, false, false, false, false, false, false, false, false, false, false, false, false, false, false, false, false, false, false, false, false, false, false, false, false] rfl rfl (any_of HT_.out (by kernel_rfl)) (fun _ _ _ h => h) (Or.inl ⟨by rfl, ?_⟩) ?_ ?_
  rotate_left
  · intro w'
    go_simp
    with_reducible rfl
  rotate_left
  · simp only [Act.put, List.setIfInBounds_toArray, List.set_cons_zero, List.set_cons_succ, i64_w, i32_w]
    rfl
  refine pure_ (i := 8) (N := some 61) (v := ?_) (a' := ?_) #[true, true, true, true, true, true, true, true, true, false, false, false, false, false, false, false, false, false, false, false, false, false, false, false, false, false, false, false, false, false, false, false, false, false, false, false] rfl rfl (any_of HT_.out (by kernel_rfl)) (fun _ _ _ h => h) (Or.inl ⟨by rfl, ?_⟩) ?_ ?_
  rotate_left
  · intro w'
    go_simp
    with_reducible rfl
  rotate_left
  · simp only [Act.put, List.setIfInBounds_toArray, List.set_cons_zero, List.set_cons_succ, i64_w, i32_w]
    rfl
  refine pure_ (i := 9) (N := some 62) (v := ?_) (a' := ?_) #[true, true, true, true, true, true, true, true, true, true, false, false, false, false, false, false, false, false, false, false, false, false, false, false, false, false, false, false, false, false, false, false, false, false, false, false] rfl rfl (any_of HT_.out (by kernel_rfl)) (fun _ _ _ h => h) (Or.inl ⟨by rfl, ?_⟩) ?_ ?_
  rotate_left
  · intro w'
    go_simp
    with_reducible rfl
  rotate_left
  · simp only [Act.put, List.setIfInBounds_toArray, List.set_cons_zero, List.set_cons_succ, i64_w, i32_w]
    rfl
  refine pure_ (i := 10) (N := some 63) (v := ?_) (a' := ?_) #[true, true, true, true, true, true, true, true, true, true, true, false, false, false, false, false, false, false, false, false, false, false, false, false, false, false, false, false, false, false, false, false, false, false, false, false] rfl rfl (any_of HT_.out (by kernel_rfl)) (fun _ _ _ h => h) (Or.inl ⟨by rfl, ?_⟩) ?_ ?_
  rotate_left
  · intro w'
    go_simp
    with_reducible rfl
  rotate_left
  · simp only [Act.put, List.setIfInBounds_toArray, List.set_cons_zero, List.set_cons_succ, i64_w, i32_w]
    rfl
  refine pure_ (i := 11) (N := some 64) (v := ?_) (a' := ?_) #[true, true, true, true, true, true, true, true, true, true, true, true, false, false, false, false, false, false, false, false, false, false, false, false, false, false, false, false, false, false, false, false, false, false, false, false] rfl rfl (any_of HT_.out (by kernel_rfl)) (fun _ _ _ h => h) (Or.inl ⟨by rfl, ?_⟩) ?_ ?_
  rotate_left
  · intro w'
    go_simp
    with_reducible rfl
  rotate_left
  · simp only [Act.put, List.setIfInBounds_toArray, List.set_cons_zero, List.set_cons_succ, i64_w, i32_w]
    rfl
  refine pure_ (i := 12) (N := some 65) (v := ?_) (a' := ?_) #[true, true, true, true, true, true, true, true, true, true, true, true, true, false, false, false, false, false, false, false, false, false, false, false, false, false, false, false, false, false, false, false, false, false, false, false] rfl rfl (any_of HT_.out (by kernel_rfl)) (fun _ _ _ h => h) (Or.inl ⟨by rfl, ?_⟩) ?_ ?_
  rotate_left
  · intro w'
    go_simp
    with_reducible rfl
  rotate_left
  · simp only [Act.put, List.setIfInBounds_toArray, List.set_cons_zero, List.set_cons_succ, i64_w, i32_w]
    rfl
  refine pure_ (i := 13) (N := some 66) (v := ?_) (a' := ?_) #[true, true, true, true, true, true, true, true, true, true, true, true, true, true, false, false, false, false, false, false, false, false, false, false, false, false, false, false, false, false, false, false, false, false, false, false] rfl rfl (any_of HT_.out (by kernel_rfl)) (fun _ _ _ h => h) (Or.inl ⟨by rfl, ?_⟩) ?_ ?_
  rotate_left
  · intro w'
    go_simp
    with_reducible rfl
  rotate_left
  · simp only [Act.put, List.setIfInBounds_toArray, List.set_cons_zero, List.set_cons_succ, i64_w, i32_w]
    rfl
  refine pure_ (i := 14) (N := some 67) (v := ?_) (a' := ?_) #[true, true, true, true, true, true, true, true, true, true, true, true, true, true, true, false, false, false, false, false, false, false, false, false, false, false, false, false, false, false, false, false, false, false, false, false] rfl rfl (any_of HT_.out (by kernel_rfl)) (fun _ _ _ h => h) (Or.inl ⟨by rfl, ?_⟩) ?_ ?_
  rotate_left
  · intro w'
    go_simp
    with_reducible rfl
  rotate_left
  · simp only [Act.put, List.setIfInBounds_toArray, List.set_cons_zero, List.set_cons_succ, i64_w, i32_w]
    rfl
  refine pure_ (i := 15) (N := some 68) (v := ?_) (a' := ?_) #[true, true, true, true, true, true, true, true, true, true, true, true, true, true, true, true, false, false, false, false, false, false, false, false, false, false, false, false, false, false, false, false, false, false, false, false] rfl rfl (any_of HT_.out (by kernel_rfl)) (fun _ _ _ h => h) (Or.inl ⟨by rfl, ?_⟩) ?_ ?_
  rotate_left
  · intro w'
    go_simp
    with_reducible rfl
  rotate_left
  · simp only [Act.put, List.setIfInBounds_toArray, List.set_cons_zero, List.set_cons_succ, i64_w, i32_w]
    rfl
  refine take_ (i := 16) (N := some 69) (v := ?_) (a' := ?_) #[true, true, true, true, true, true, true, true, true, true, true, true, true, true, true, true, true, false, false, false, false, false, false, false, false, false, false, false, false, false, false, false, false, false, false, false] rfl rfl (take_of HT_.out (by kernel_rfl)) (fun _ _ _ h => h) (Or.inl ⟨by rfl, ?_⟩) hHeld ?_ ?_
  rotate_left
  · rintro w' ⟨s0, s1⟩
    go_simp
    with_reducible rfl
  rotate_left
  · simp only [Act.put, List.setIfInBounds_toArray, List.set_cons_zero, List.set_cons_succ, i64_w, i32_w]
    rfl
  refine pure_ (i := 17) (N := some 70) (v := ?_) (a' := ?_) #[true, true, true, true, true, true, true, true, true, true, true, true, true, true, true, true, true, true, false, false, false, false, false, false, false, false, false, false, false, false, false, false, false, false, false, false] rfl rfl (any_of HT_.out (by kernel_rfl)) (fun _ _ _ h => h) (Or.inl ⟨by rfl, ?_⟩) ?_ ?_
  rotate_left
  · intro w'
    go_simp
    with_reducible rfl
  rotate_left
  · simp only [Act.put, List.setIfInBounds_toArray, List.set_cons_zero, List.set_cons_succ, i64_w, i32_w]
    rfl
  refine take_ (i := 18) (N := some 71) (v := ?_) (a' := ?_) #[true, true, true, true, true, true, true, true, true, true, true, true, true, true, true, true, true, true, true, false, false, false, false, false, false, false, false, false, false, false, false, false, false, false, false, false] rfl rfl (take_of HT_.out (by kernel_rfl)) (fun _ _ _ h => h) (Or.inl ⟨by rfl, ?_⟩) hHeld ?_ ?_
  rotate_left
  · rintro w' ⟨s0, s1⟩
    go_simp
    with_reducible rfl
  rotate_left
  · simp only [Act.put, List.setIfInBounds_toArray, List.set_cons_zero, List.set_cons_succ, i64_w, i32_w]
    rfl
  refine pure_ (i := 20) (N := some 73) (v := ?_) (a' := ?_) #[true, true, true, true, true, true, true, true, true, true, true, true, true, true, true, true, true, true, true, false, true, false, false, false, false, false, false, false, false, false, false, false, false, false, false, false] rfl rfl (any_of HT_.out (by kernel_rfl)) (fun _ _ _ h => h) (Or.inl ⟨by rfl, ?_⟩) ?_ ?_
  rotate_left
  · intro w'
    go_simp
    with_reducible rfl
  rotate_left
  · simp only [Act.put, List.setIfInBounds_toArray, List.set_cons_zero, List.set_cons_succ, i64_w, i32_w]
    rfl
  refine pure_ (i := 21) (N := some 74) (v := ?_) (a' := ?_) #[true, true, true, true, true, true, true, true, true, true, true, true, true, true, true, true, true, true, true, false, true, true, false, false, false, false, false, false, false, false, false, false, false, false, false, false] rfl rfl (any_of HT_.out (by kernel_rfl)) (fun _ _ _ h => h) (Or.inl ⟨by rfl, ?_⟩) ?_ ?_
  rotate_left
  · intro w'
    go_simp
    with_reducible rfl
  rotate_left
  · simp only [Act.put, List.setIfInBounds_toArray, List.set_cons_zero, List.set_cons_succ, i64_w, i32_w]
    rfl
  refine take_ (i := 22) (N := some 75) (v := ?_) (a' := ?_) #[true, true, true, true, true, true, true, true, true, true, true, true, true, true, true, true, true, true, true, false, true, true, true, false, false, false, false, false, false, false, false, false, false, false, false, false] rfl rfl (take_of HT_.out (by kernel_rfl)) (fun _ _ _ h => h) (Or.inl ⟨by rfl, ?_⟩) hHeld ?_ ?_
  rotate_left
  · rintro w' ⟨s0, s1⟩
    go_simp
    with_reducible rfl
  rotate_left
  · simp only [Act.put, List.setIfInBounds_toArray, List.set_cons_zero, List.set_cons_succ, i64_w, i32_w]
    rfl
  refine pure_ (i := 23) (N := some 76) (v := ?_) (a' := ?_) #[true, true, true, true, true, true, true, true, true, true, true, true, true, true, true, true, true, true, true, false, true, true, true, true, false, false, false, false, false, false, false, false, false, false, false, false] rfl rfl (any_of HT_.out (by kernel_rfl)) (fun _ _ _ h => h) (Or.inl ⟨by rfl, ?_⟩) ?_ ?_
  rotate_left
  · intro w'
    go_simp
    with_reducible rfl
  rotate_left
  · simp only [Act.put, List.setIfInBounds_toArray, List.set_cons_zero, List.set_cons_succ, i64_w, i32_w]
    rfl
  refine take_ (i := 24) (N := some 77) (v := ?_) (a' := ?_) #[true, true, true, true, true, true, true, true, true, true, true, true, true, true, true, true, true, true, true, false, true, true, true, true, true, false, false, false, false, false, false, false, false, false, false, false] rfl rfl (take_of HT_.out (by kernel_rfl)) (fun _ _ _ h => h) (Or.inl ⟨by rfl, ?_⟩) hHeld ?_ ?_
  rotate_left
  · rintro w' ⟨s0, s1⟩
    go_simp
    with_reducible rfl
  rotate_left
  · simp only [Act.put, List.setIfInBounds_toArray, List.set_cons_zero, List.set_cons_succ, i64_w, i32_w]
    rfl
  refine one_ (i := 19) (N := some 72) #[true, true, true, true, true, true, true, true, true, true, true, true, true, true, true, true, true, true, true, true, true, true, true, true, true, false, false, false, false, false, false, false, false, false, false, false] rfl rfl (one_of HT_.out (by kernel_rfl)) (by decide) (fun K hK => ?_)
  refine goes_ Tryd.func30 (by kernel_rfl) rfl #[.pointer (some ⟨gp, 0, none⟩), .slice A24 l.length c24, .float .f64 d] (by rfl) rfl rfl (by (try simp only [List.map_toArray, List.map_cons, List.map_nil]); first | done | rfl) ?_
  refine (plane_Serve.calls k PO.out.at_ (ML.keep HML.out HB.out) A24 c24 l d (Kd.C_below HR5.out HB.out) hc24 HV.out).mono ?_
  rintro e w15 ⟨rfl, hb⟩
  refine ⟨_, rfl, ?_⟩
  have m0_ := Aside0.mk (blk_below BA.out hb)
  have m1_ := Aside0.mk (blk_below BB.out hb)
  have m2_ := Aside0.mk (blk_below BX.out hb)
  have m3_ := Aside0.mk (below_step HB.out hb)
  have m4_ := Aside0.mk (PO.out.below hb)
  have m5_ := Aside0.mk (QO.out.below hb)
  clear BA BB BX HB PO QO hb
  have BA := m0_
  have BB := m1_
  have BX := m2_
  have HB := m3_
  have PO := m4_
  have QO := m5_
  clear m0_ m1_ m2_ m3_ m4_ m5_
  refine hK.out _ _ ⟨(blk_cell BX.out 4).trans rfl, (blk_cell BX.out 5).trans rfl⟩ (fun hHeld => ?_)
  clear hK K
  refine norm_ (a' := ?_) ?_ ?_
  rotate_left
  · show Act.put _ (some 72) _ = _
    simp only [Act.put, List.setIfInBounds_toArray, List.set_cons_zero, List.set_cons_succ, i64_w, i32_w]
    rfl
  refine one_ (i := 25) (N := some 78) #[true, true, true, true, true, true, true, true, true, true, true, true, true, true, true, true, true, true, true, true, true, true, true, true, true, true, false, false, false, false, false, false, false, false, false, false] rfl rfl (one_of HT_.out (by kernel_rfl)) (by decide) (fun K hK => ?_)
  refine goes_ Tryd.func30 (by kernel_rfl) rfl #[.pointer (some ⟨gq, 0, none⟩), .slice A24 l.length c24, .float .f64 d] (by rfl) rfl rfl (by (try simp only [List.map_toArray, List.map_cons, List.map_nil]); first | done | rfl) ?_
  refine (plane_Serve.calls k QO.out.at_ (ML.keep HML.out HB.out) A24 c24 l d (Kd.C_below HR5.out HB.out) hc24 HV.out).mono ?_
  rintro e w16 ⟨rfl, hb⟩
  refine ⟨_, rfl, ?_⟩
  have m0_ := Aside0.mk (blk_below BA.out hb)
  have m1_ := Aside0.mk (blk_below BB.out hb)
  have m2_ := Aside0.mk (blk_below BX.out hb)
  have m3_ := Aside0.mk (below_step HB.out hb)
  have m4_ := Aside0.mk (PO.out.below hb)
  have m5_ := Aside0.mk (QO.out.below hb)
  clear BA BB BX HB PO QO hb
  have BA := m0_
  have BB := m1_
  have BX := m2_
  have HB := m3_
  have PO := m4_
  have QO := m5_
  clear m0_ m1_ m2_ m3_ m4_ m5_
  refine hK.out _ _ ⟨(blk_cell BX.out 4).trans rfl, (blk_cell BX.out 5).trans rfl⟩ (fun hHeld => ?_)
  clear hK K
  refine norm_ (a' := ?_) ?_ ?_
  rotate_left
  · show Act.put _ (some 78) _ = _
    simp only [Act.put, List.setIfInBounds_toArray, List.set_cons_zero, List.set_cons_succ, i64_w, i32_w]
    rfl
  refine pure_ (i := 26) (N := some 79) (v := ?_) (a' := ?_) #[true, true, true, true, true, true, true, true, true, true, true, true, true, true, true, true, true, true, true, true, true, true, true, true, true, true, true, false, false, false, false, false, false, false, false, false] rfl rfl (any_of HT_.out (by kernel_rfl)) (fun _ _ _ h => h) (Or.inl ⟨by rfl, ?_⟩) ?_ ?_
  rotate_left
  · intro w'
    go_simp
    with_reducible rfl
  rotate_left
  · simp only [Act.put, List.setIfInBounds_toArray, List.set_cons_zero, List.set_cons_succ, i64_w, i32_w]
    rfl
  refine pure_ (i := 27) (N := some 80) (v := ?_) (a' := ?_) #[true, true, true, true, true, true, true, true, true, true, true, true, true, true, true, true, true, true, true, true, true, true, true, true, true, true, true, true, false, false, false, false, false, false, false, false] rfl rfl (any_of HT_.out (by kernel_rfl)) (fun _ _ _ h => h) (Or.inl ⟨by rfl, ?_⟩) ?_ ?_
  rotate_left
  · intro w'
    go_simp
    with_reducible rfl
  rotate_left
  · simp only [Act.put, List.setIfInBounds_toArray, List.set_cons_zero, List.set_cons_succ, i64_w, i32_w]
    rfl
  refine pure_ (i := 28) (N := some 81) (v := ?_) (a' := ?_) #[true, true, true, true, true, true, true, true, true, true, true, true, true, true, true, true, true, true, true, true, true, true, true, true, true, true, true, true, true, false, false, false, false, false, false, false] rfl rfl (any_of HT_.out (by kernel_rfl)) (fun _ _ _ h => h) (Or.inl ⟨by rfl, ?_⟩) ?_ ?_
  rotate_left
  · intro w'
    go_simp
    with_reducible rfl
  rotate_left
  · simp only [Act.put, List.setIfInBounds_toArray, List.set_cons_zero, List.set_cons_succ, i64_w, i32_w]
    rfl
  refine pure_ (i := 29) (N := some 82) (v := ?_) (a' := ?_) #[true, true, true, true, true, true, true, true, true, true, true, true, true, true, true, true, true, true, true, true, true, true, true, true, true, true, true, true, true, true, false, false, false, false, false, false] rfl rfl (any_of HT_.out (by kernel_rfl)) (fun _ _ _ h => h) (Or.inl ⟨by rfl, ?_⟩) ?_ ?_
  rotate_left
  · intro w'
    go_simp
    with_reducible rfl
  rotate_left
  · simp only [Act.put, List.setIfInBounds_toArray, List.set_cons_zero, List.set_cons_succ, i64_w, i32_w]
    rfl
  refine pure_ (i := 31) (N := some 84) (v := ?_) (a' := ?_) #[true, true, true, true, true, true, true, true, true, true, true, true, true, true, true, true, true, true, true, true, true, true, true, true, true, true, true, true, true, true, false, true, false, false, false, false] rfl rfl (any_of HT_.out (by kernel_rfl)) (fun _ _ _ h => h) (Or.inl ⟨by rfl, ?_⟩) ?_ ?_
  rotate_left
  · intro w'
    go_simp
    with_reducible rfl
  rotate_left
  · simp only [Act.put, List.setIfInBounds_toArray, List.set_cons_zero, List.set_cons_succ, i64_w, i32_w]
    rfl
  refine one_ (i := 30) (N := some 83) #[true, true, true, true, true, true, true, true, true, true, true, true, true, true, true, true, true, true, true, true, true, true, true, true, true, true, true, true, true, true, true, true, false, false, false, false] rfl rfl (one_of HT_.out (by kernel_rfl)) (by decide) (fun K hK => ?_)
  refine goes_ Tryd.func33 (by kernel_rfl) rfl #[.pointer (some ⟨gp, 0, none⟩)] (by rfl) rfl rfl (by (try simp only [List.map_toArray, List.map_cons, List.map_nil]); first | done | rfl) ?_
  refine (config_ok PO.out.at_ z4 z5 Z6.out).mono ?_
  rintro e w17 ⟨B1, d1, B2, d2, rfl, hk1, hk2, hk3, hk4, hb⟩
  refine ⟨_, rfl, ?_⟩
  have m0_ := Aside0.mk (blk_below BA.out hb)
  have m1_ := Aside0.mk (blk_below BB.out hb)
  have m2_ := Aside0.mk (blk_below BX.out hb)
  have m3_ := Aside0.mk (below_step HB.out hb)
  have m4_ := Aside0.mk (PO.out.below hb)
  have m5_ := Aside0.mk (QO.out.below hb)
  clear BA BB BX HB PO QO hb
  have BA := m0_
  have BB := m1_
  have BX := m2_
  have HB := m3_
  have PO := m4_
  have QO := m5_
  clear m0_ m1_ m2_ m3_ m4_ m5_
  have RP1 := Aside0.mk hk1
  have RP2 := Aside0.mk hk2
  have RP3 := Aside0.mk hk3
  have RP4 := Aside0.mk hk4
  clear hk1 hk2 hk3 hk4
  refine hK.out _ _ ⟨(blk_cell BX.out 4).trans rfl, (blk_cell BX.out 5).trans rfl⟩ (fun hHeld => ?_)
  clear hK K
  refine norm_ (a' := ?_) ?_ ?_
  rotate_left
  · show Act.put _ (some 83) _ = _
    simp only [Act.put, List.setIfInBounds_toArray, List.set_cons_zero, List.set_cons_succ, i64_w, i32_w]
    rfl
  refine one_ (i := 32) (N := some 85) #[true, true, true, true, true, true, true, true, true, true, true, true, true, true, true, true, true, true, true, true, true, true, true, true, true, true, true, true, true, true, true, true, true, false, false, false] rfl rfl (one_of HT_.out (by kernel_rfl)) (by decide) (fun K hK => ?_)
  refine goes_ Tryd.func33 (by kernel_rfl) rfl #[.pointer (some ⟨gq, 0, none⟩)] (by rfl) rfl rfl (by (try simp only [List.map_toArray, List.map_cons, List.map_nil]); first | done | rfl) ?_
  refine (config_ok QO.out.at_ z4 z5 Z6.out).mono ?_
  rintro e w18 ⟨E1, e1, E2, e2, rfl, hk1, hk2, hk3, hk4, hb⟩
  refine ⟨_, rfl, ?_⟩
  have m0_ := Aside0.mk (blk_below BA.out hb)
  have m1_ := Aside0.mk (blk_below BB.out hb)
  have m2_ := Aside0.mk (blk_below BX.out hb)
  have m3_ := Aside0.mk (below_step HB.out hb)
  have m4_ := Aside0.mk (PO.out.below hb)
  have m5_ := Aside0.mk (QO.out.below hb)
  have m6_ := Aside0.mk (Kd.C_below RP1.out hb)
  have m7_ := Aside0.mk (Kd.C_below RP3.out hb)
  clear BA BB BX HB PO QO RP1 RP3 hb
  have BA := m0_
  have BB := m1_
  have BX := m2_
  have HB := m3_
  have PO := m4_
  have QO := m5_
  have RP1 := m6_
  have RP3 := m7_
  clear m0_ m1_ m2_ m3_ m4_ m5_ m6_ m7_
  have RQ1 := Aside0.mk hk1
  have RQ2 := Aside0.mk hk2
  have RQ3 := Aside0.mk hk3
  have RQ4 := Aside0.mk hk4
  clear hk1 hk2 hk3 hk4
  refine hK.out _ _ ⟨(blk_cell BX.out 4).trans rfl, (blk_cell BX.out 5).trans rfl⟩ (fun hHeld => ?_)
  clear hK K
  refine norm_ (a' := ?_) ?_ ?_
  rotate_left
  · show Act.put _ (some 85) _ = _
    simp only [Act.put, List.setIfInBounds_toArray, List.set_cons_zero, List.set_cons_succ, i64_w, i32_w]
    rfl
  refine last_ (i := 33) (N := some 86) #[true, true, true, true, true, true, true, true, true, true, true, true, true, true, true, true, true, true, true, true, true, true, true, true, true, true, true, true, true, true, true, true, true, true, false, false] rfl rfl (one_of HT_.out (by kernel_rfl)) (by decide) (fun K hK => ?_)
  refine goes_ Tryd.func32 (by kernel_rfl) rfl #[.agg #[.int .i64 b0, .slice B1 b1.length d1, .slice B2 b2.length d2], .agg #[.int .i64 b0, .slice E1 b1.length e1, .slice E2 b2.length e2]] (by rfl) rfl rfl (by (try simp only [List.map_toArray, List.map_cons, List.map_nil]); first | done | rfl) ?_
  refine (tollgateref08_SameConfig.calls k b0 B1 d1 b1 B2 d2 b2 b0 E1 e1 b1 E2 e2 b2 sm _ RP1.out RP2.out RP3.out RP4.out RQ1.out RQ2.out RQ3.out RQ4.out HSM.out).mono ?_
  rintro e w19 ⟨rfl, hb⟩
  refine ⟨_, rfl, ?_⟩
  have m0_ := Aside0.mk (blk_below BA.out hb)
  have m1_ := Aside0.mk (blk_below BB.out hb)
  have m2_ := Aside0.mk (blk_below BX.out hb)
  have m3_ := Aside0.mk (below_step HB.out hb)
  have m4_ := Aside0.mk (PO.out.below hb)
  have m5_ := Aside0.mk (QO.out.below hb)
  have m6_ := Aside0.mk (Kd.C_below RP1.out hb)
  have m7_ := Aside0.mk (Kd.C_below RP3.out hb)
  have m8_ := Aside0.mk (Kd.C_below RQ1.out hb)
  have m9_ := Aside0.mk (Kd.C_below RQ3.out hb)
  clear BA BB BX HB PO QO RP1 RP3 RQ1 RQ3 hb
  have BA := m0_
  have BB := m1_
  have BX := m2_
  have HB := m3_
  have PO := m4_
  have QO := m5_
  have RP1 := m6_
  have RP3 := m7_
  have RQ1 := m8_
  have RQ3 := m9_
  clear m0_ m1_ m2_ m3_ m4_ m5_ m6_ m7_ m8_ m9_
  refine hK.out _ _ ?_
  clear hK K
  refine norm_ (a' := ?_) ?_ ?_
  rotate_left
  · show Act.put _ (some 86) _ = _
    simp only [Act.put, List.setIfInBounds_toArray, List.set_cons_zero, List.set_cons_succ, i64_w, i32_w]
    rfl
  refine pure_ (i := 34) (N := some 87) (v := ?_) (a' := ?_) #[true, true, true, true, true, true, true, true, true, true, true, true, true, true, true, true, true, true, true, true, true, true, true, true, true, true, true, true, true, true, true, true, true, true, true, false] rfl rfl (any_of HT_.out (by kernel_rfl)) (fun _ _ _ h => h) (Or.inl ⟨by rfl, ?_⟩) ?_ ?_
  rotate_left
  · intro w'
    go_simp
    with_reducible rfl
  rotate_left
  · simp only [Act.put, List.setIfInBounds_toArray, List.set_cons_zero, List.set_cons_succ, i64_w, i32_w]
    rfl
  refine pure_ (i := 35) (N := some 6) (v := ?_) (a' := ?_) #[true, true, true, true, true, true, true, true, true, true, true, true, true, true, true, true, true, true, true, true, true, true, true, true, true, true, true, true, true, true, true, true, true, true, true, true] rfl rfl (any_of HT_.out (by kernel_rfl)) (fun _ _ _ h => h) (Or.inl ⟨by rfl, ?_⟩) ?_ ?_
  rotate_left
  · intro w'
    go_simp
    with_reducible rfl
  rotate_left
  · simp only [Act.put, List.setIfInBounds_toArray, List.set_cons_zero, List.set_cons_succ, i64_w, i32_w]
    rfl
  refine done_ (done_of HT_.out (by kernel_rfl)) ?_
  clear HT_
  go_wp2
  go_ret
  exact ⟨by simp, HB.out⟩
end Go.Proofs.YtabkdmfnafeaeaaDoor.S
end
section
namespace Go.Proofs.YtabkdmfnafeaeaaDoor.bulks
open Go.ChangeShapes Go.WideShapes
theorem one_le {H : Type} (d : DataW H) : 1 ≤ Rows.uptoBulk d := by
  cases d with
  | lit l => cases l <;> simp [Rows.uptoBulk]
  | nil => simp [Rows.uptoBulk]
  | ptr d => simp [Rows.uptoBulk]
  | slice elems spare => simp [Rows.uptoBulk]
  | agg parts => simp [Rows.uptoBulk]
  | iface t d => simp [Rows.uptoBulk]
  | map entries => simp [Rows.uptoBulk]
  | held h => simp [Rows.uptoBulk]
theorem length_le {H : Type} (l : List (DataW H)) : l.length ≤ Rows.uptoBulkAll l := by
  induction l with
  | nil => simp [Rows.uptoBulkAll]
  | cons x r ih => have := one_le x; simp only [Rows.uptoBulkAll, List.length_cons]; omega
theorem bound {H : Type} {l : List (DataW H)} (hk : Rows.uptoSmall H l = true) : Rows.uptoBulkAll l ≤ 1048576 := of_decide_eq_true hk
end Go.Proofs.YtabkdmfnafeaeaaDoor.bulks
end
section
namespace Go.Proofs.YtabkdmfnafeaeaaDoor.opens
open Go.ChangeShapes Go.WideShapes Go.Deep Go.Proofs.YtabkdmfnafeaeaaDoorW.PrintWords
/-- What reads as a datum of type t is a value y of the kind d; of y 'ok' holds, and its measure is no greater than the datum's bulk. -/
structure Rd (P : Program) (t : TypeId) {α : Type} (d : Kd α) (ok : α → Prop) (mu : α → Nat) : Prop where
  out : ∀ {H : Type} {enc : TypeId × Value → H} {w : World} {base : Nat} {spare : Nat → Bool} {held : Bool} {fuel : Nat} {cs : List Value} {x : DataW H × List MemPlace}, DataW.trod enc P w base spare held fuel t cs = some x → ∃ y, d.K w y cs ∧ ok y ∧ mu y ≤ Rows.uptoBulk x.1
variable {P : Program} {t : TypeId}
theorem Rd.int {k : IntKind} (ht : P.underlying t = some (.int k)) : Rd P t (Kd.int k) (fun n => (Lit.int k n).wf = true) (fun _ => 1) := ⟨fun h => by
  obtain ⟨n, rfl, rfl, hw⟩ := DataW.trod_int ht h
  exact ⟨n, rfl, hw, bulks.one_le _⟩⟩
theorem Rd.bool (ht : P.underlying t = some .bool) : Rd P t Kd.bool (fun _ => True) (fun _ => 1) := ⟨fun h => by
  obtain ⟨n, rfl, rfl⟩ := DataW.trod_bool ht h
  exact ⟨n, rfl, trivial, bulks.one_le _⟩⟩
theorem Rd.string (ht : P.underlying t = some .string) : Rd P t Kd.string (fun s => s.size ≤ 9223372036854775807) (fun s => s.size + 1) := ⟨fun h => by
  obtain ⟨s, rfl, rfl, hs⟩ := DataW.trod_string ht h
  refine ⟨s, rfl, hs, ?_⟩
  simp only [Rows.uptoBulk, Array.length_toList]
  exact Nat.le_refl _⟩
def Kdf : Kd Nat := Kd.scalar (Value.float .f64) (fun _ => rfl)
theorem Rd.float (ht : P.underlying t = some (.float .f64)) : Rd P t Kdf (fun b => (Lit.float .f64 b).wf = true) (fun _ => 1) := ⟨fun {H enc w base spare held fuel cs x} h => by
  cases fuel with
  | zero => simp [DataW.trod] at h
  | succ n =>
    unfold DataW.trod at h
    rw [ht] at h
    split at h
    all_goals first
      | (simp at h; done)
      | (rename_i heq; cases heq; done)
      | (rename_i heq; cases heq
         split at h
         · rename_i hh
           obtain ⟨rfl, hw⟩ := hh
           injection h with h
           subst h
           exact ⟨_, rfl, hw, bulks.one_le _⟩
         · cases h)⟩
theorem Rd.iso {α β : Type} {d : Kd α} {ok : α → Prop} {mu : α → Nat} (f : β → α) (g : α → β) (hfg : ∀ x, f (g x) = x) (h : Rd P t d ok mu) : Rd P t (Kd.iso d f) (fun y => ok (f y)) (fun y => mu (f y)) := ⟨fun hx => by
  obtain ⟨y, hK, ho, hm⟩ := h.out hx
  refine ⟨g y, ?_, ?_, ?_⟩
  · show d.K _ (f (g y)) _
    rw [hfg]
    exact hK
  · rw [hfg]; exact ho
  · rw [hfg]; exact hm⟩
theorem sum_le_bulk {H : Type} {α : Type} (mu : α → Nat) : ∀ (l : List α) (D : List (DataW H)), l.length ≤ D.length → (∀ (i : Nat) (y : α) (z : DataW H), l[i]? = some y → D[i]? = some z → mu y ≤ Rows.uptoBulk z) → (l.map mu).sum ≤ Rows.uptoBulkAll D
  | [], _, _, _ => by simp
  | _ :: _, [], h, _ => by simp at h
  | y :: l, z :: D, h, hi => by
    have h0 := hi 0 y z rfl rfl
    have h1 := sum_le_bulk mu l D (by simpa using h) (fun i y z hy hz => hi (i + 1) y z (by simpa using hy) (by simpa using hz))
    simp only [List.map_cons, List.sum_cons, Rows.uptoBulkAll]
    omega
theorem Rd.slice {e : TypeId} {α : Type} {d : Kd α} {ok : α → Prop} {mu : α → Nat} (ht : P.underlying t = some (.slice e)) (hc : P.cellsOf e = d.sz) (h : Rd P e d ok mu) :
    Rd P t (Kd.slice e d) (fun l => ∀ y ∈ l, ok y) (fun l => (l.map mu).sum + 1) := ⟨fun {H enc w base spare held fuel cs x} hx => by
  rcases open_slice ht hx with ⟨rfl, rfl⟩ | ⟨a, len, cap, m, n, D, Pl, rfl, hb, hl, hm, hmm, rfl, hel⟩
  · exact ⟨[], ⟨none, 0, rfl, Nat.le_refl _, Kd.C_nil _ _⟩, by simp, by simp [Rows.uptoBulk]⟩
  · have hlm : len ≤ m := by rw [hmm]; split <;> omega
    have hy : ∀ i : Fin len, ∃ (y : α), ∃ cs', w.cells? base (a.add (i.1 * P.cellsOf e)) (P.cellsOf e) = some cs' ∧ d.K w y cs' ∧ ok y ∧ mu y ≤ Rows.uptoBulk (D i.1) := by
      intro i
      obtain ⟨cs', hcs, htr⟩ := hel i.1 (by have := i.2; omega)
      obtain ⟨y, hK, ho, hmu⟩ := h.out htr
      exact ⟨y, cs', hcs, hK, ho, hmu⟩
    obtain ⟨f, hf⟩ : ∃ f : Fin len → α, ∀ i, ∃ cs', w.cells? base (a.add (i.1 * P.cellsOf e)) (P.cellsOf e) = some cs' ∧ d.K w (f i) cs' ∧ ok (f i) ∧ mu (f i) ≤ Rows.uptoBulk (D i.1) := ⟨fun i => Classical.choose (hy i), fun i => Classical.choose_spec (hy i)⟩
    have hlen : (List.ofFn f).length = len := List.length_ofFn
    refine ⟨List.ofFn f, ⟨some a, cap, by rw [hlen], by rw [hlen]; exact hl, ⟨rfl, by rw [hlen]; unfold maxLen at hm; omega, fun _ => ⟨a, rfl, fun j p hj => ?_⟩⟩⟩, ?_, ?_⟩
    · obtain ⟨hj2, hp⟩ := List.getElem?_eq_some_iff.1 hj
      rw [List.getElem_ofFn] at hp
      obtain ⟨cs', hcs, hK, _, _⟩ := hf ⟨j, by simpa using hj2⟩
      rw [hp] at hK
      obtain ⟨_, hl2, hcell⟩ := World.cells?_some hcs
      refine ⟨cs', d.K_len hK, hK, fun i u hu => ?_⟩
      have hi : i < cs'.length := (List.getElem?_eq_some_iff.1 hu).1
      have := hcell i (by omega)
      rw [Go.Deep.add_add, hc] at this
      rw [this, hu]
    · intro y hy
      obtain ⟨i, rfl⟩ := List.mem_ofFn.1 hy
      obtain ⟨_, _, _, ho, _⟩ := hf i
      exact ho
    · simp only [Rows.uptoBulk]
      have := sum_le_bulk mu (List.ofFn f) ((List.range len).map D) (by simp) (fun i y z hy hz => by
        obtain ⟨hj2, hp⟩ := List.getElem?_eq_some_iff.1 hy
        rw [List.getElem_ofFn] at hp
        have hi : i < len := by simpa using hj2
        obtain ⟨_, _, _, _, hmu⟩ := hf ⟨i, hi⟩
        rw [hp] at hmu
        rw [List.getElem?_map, List.getElem?_range hi] at hz
        injection hz with hz
        rw [← hz]
        exact hmu)
      omega⟩
/-- The fields of a struct, from the offset on. -/
structure RdF (P : Program) (fs : List Field) (off : Nat) {α : Type} (d : Kd α) (ok : α → Prop) (mu : α → Nat) : Prop where
  out : ∀ {H : Type} {enc : TypeId × Value → H} {w : World} {base : Nat} {spare : Nat → Bool} {held : Bool} {fuel : Nat} {cs : List Value} {xs : List (DataW H × List MemPlace)}, cs.length = d.sz → xs.length = fs.length →
    (∀ (i : Nat) (f : Field), fs[i]? = some f → DataW.trod enc P w base spare held fuel f.type ((cs.drop (f.offset - off)).take (P.cellsOf f.type)) = xs[i]?) → (∀ f ∈ fs, off ≤ f.offset) → ∃ y, d.K w y cs ∧ ok y ∧ mu y ≤ Rows.uptoBulkAll (xs.map (·.1))
theorem RdF.one {f : Field} {off : Nat} {α : Type} {d : Kd α} {ok : α → Prop} {mu : α → Nat} (ho : f.offset = off) (hc : P.cellsOf f.type = d.sz) (h : Rd P f.type d ok mu) : RdF P [f] off d ok mu := ⟨fun {H enc w base spare held fuel cs xs} hl hx hf _ => by
  match xs, hx with
  | [x], _ =>
    have h0 := hf 0 f rfl
    rw [ho, Nat.sub_self, List.drop_zero, List.take_of_length_le (by omega)] at h0
    obtain ⟨y, hK, hok, hmu⟩ := h.out h0
    exact ⟨y, hK, hok, by simp only [List.map_cons, List.map_nil, Rows.uptoBulkAll]; omega⟩⟩
theorem RdF.cons {f : Field} {fs : List Field} {off : Nat} {α β : Type} {d : Kd α} {ok : α → Prop} {mu : α → Nat} {d' : Kd β} {ok' : β → Prop} {mu' : β → Nat} (ho : f.offset = off) (hc : P.cellsOf f.type = d.sz) (h : Rd P f.type d ok mu) (hle : ∀ g ∈ fs, off + d.sz ≤ g.offset)
    (h' : RdF P fs (off + d.sz) d' ok' mu') : RdF P (f :: fs) off (Kd.pair d d') (fun y => ok y.1 ∧ ok' y.2) (fun y => mu y.1 + mu' y.2) := ⟨fun {H enc w base spare held fuel cs xs} hl hx hf _ => by
  match xs, hx with
  | x :: xs, hx =>
    have hsz : cs.length = d.sz + d'.sz := hl
    have h0 := hf 0 f rfl
    rw [ho, Nat.sub_self, List.drop_zero, hc] at h0
    obtain ⟨y, hK, hok, hmu⟩ := h.out h0
    obtain ⟨y', hK', hok', hmu'⟩ := h'.out (cs := cs.drop d.sz) (xs := xs) (by rw [List.length_drop]; omega) (by simpa using hx) (fun i g hg => by
      have h1 := hf (i + 1) g (by simpa using hg)
      have := hle g (List.mem_of_getElem? hg)
      rw [List.drop_drop, show d.sz + (g.offset - (off + d.sz)) = g.offset - off by omega]
      simpa using h1) hle
    refine ⟨(y, y'), ⟨cs.take d.sz, cs.drop d.sz, (List.take_append_drop _ _).symm, hK, hK'⟩, ⟨hok, hok'⟩, ?_⟩
    simp only [List.map_cons, Rows.uptoBulkAll]
    omega⟩
theorem Rd.structS {fs : Array Field} {α : Type} {d : Kd α} {ok : α → Prop} {mu : α → Nat} (ht : P.underlying t = some (.struct fs)) (hc : P.cellsOf t = d.sz) (h : RdF P fs.toList 0 d ok mu) : Rd P t d ok (fun y => mu y + 1) := ⟨fun hx => by
  obtain ⟨xs, n, _, rfl, hl, hlen, hf⟩ := DataW.trod_struct ht hx
  obtain ⟨y, hK, hok, hmu⟩ := h.out (hl.trans hc) (by simpa using hlen) (fun i f hi => by rw [Nat.sub_zero]; exact hf i f (by simpa using hi)) (fun f _ => Nat.zero_le _)
  exact ⟨y, hK, hok, by simp only [Rows.uptoBulk]; omega⟩⟩
/-- The elements of an array. -/
structure RdA (P : Program) (e : TypeId) (n : Nat) {α : Type} (d : Kd α) (ok : α → Prop) (mu : α → Nat) : Prop where
  out : ∀ {H : Type} {enc : TypeId × Value → H} {w : World} {base : Nat} {spare : Nat → Bool} {held : Bool} {fuel : Nat} {cs : List Value} {xs : List (DataW H × List MemPlace)}, cs.length = d.sz → xs.length = n →
    (∀ (i : Nat), i < n → DataW.trod enc P w base spare held fuel e ((cs.drop (i * P.cellsOf e)).take (P.cellsOf e)) = xs[i]?) → ∃ y, d.K w y cs ∧ ok y ∧ mu y ≤ Rows.uptoBulkAll (xs.map (·.1))
theorem RdA.one {e : TypeId} {α : Type} {d : Kd α} {ok : α → Prop} {mu : α → Nat} (hc : P.cellsOf e = d.sz) (h : Rd P e d ok mu) : RdA P e 1 d ok mu := ⟨fun {H enc w base spare held fuel cs xs} hl hx hf => by
  match xs, hx with
  | [x], _ =>
    have h0 := hf 0 (by omega)
    rw [Nat.zero_mul, List.drop_zero, List.take_of_length_le (by omega)] at h0
    obtain ⟨y, hK, hok, hmu⟩ := h.out h0
    exact ⟨y, hK, hok, by simp only [List.map_cons, List.map_nil, Rows.uptoBulkAll]; omega⟩⟩
theorem RdA.cons {e : TypeId} {n : Nat} {α β : Type} {d : Kd α} {ok : α → Prop} {mu : α → Nat} {d' : Kd β} {ok' : β → Prop} {mu' : β → Nat} (hc : P.cellsOf e = d.sz) (h : Rd P e d ok mu)
    (h' : RdA P e n d' ok' mu') : RdA P e (n + 1) (Kd.pair d d') (fun y => ok y.1 ∧ ok' y.2) (fun y => mu y.1 + mu' y.2) := ⟨fun {H enc w base spare held fuel cs xs} hl hx hf => by
  match xs, hx with
  | x :: xs, hx =>
    have hsz : cs.length = d.sz + d'.sz := hl
    have h0 := hf 0 (by omega)
    rw [Nat.zero_mul, List.drop_zero, hc] at h0
    obtain ⟨y, hK, hok, hmu⟩ := h.out h0
    obtain ⟨y', hK', hok', hmu'⟩ := h'.out (cs := cs.drop d.sz) (xs := xs) (by rw [List.length_drop]; omega) (by simpa using hx) (fun i hi => by
      have h1 := hf (i + 1) (by omega)
      rw [List.drop_drop, ← hc, show P.cellsOf e + i * P.cellsOf e = (i + 1) * P.cellsOf e by rw [Nat.add_mul]; omega]
      simpa using h1)
    refine ⟨(y, y'), ⟨cs.take d.sz, cs.drop d.sz, (List.take_append_drop _ _).symm, hK, hK'⟩, ⟨hok, hok'⟩, ?_⟩
    simp only [List.map_cons, Rows.uptoBulkAll]
    omega⟩
end Go.Proofs.YtabkdmfnafeaeaaDoor.opens
end
section
namespace Go.Proofs.YtabkdmfnafeaeaaDoor.S
open Go.RowKit Go.Proofs.YtabkdmfnafeaeaaDoorW.PrintWords Go.Proofs.YtabkdmfnafeaeaaDoorW.PrintLast Go.Proofs.YtabkdmfnafeaeaaDoor.opens
set_option linter.unusedVariables false
def ok93 (x : S93) : Prop := x.f0.size ≤ 9223372036854775807 ∧ x.f1.size ≤ 9223372036854775807 ∧ x.f2.size ≤ 9223372036854775807
def mu93 (x : S93) : Nat := ((x.f0.size + 1) + ((x.f1.size + 1) + (x.f2.size + 1))) + 1
theorem o93 : Rd Tryd.prog 93 k93 ok93 mu93 := by
  have h := Rd.iso (fun x : S93 => (x.f0, x.f1, x.f2)) (fun p : ByteArray × ByteArray × ByteArray => (⟨p.1, p.2.1, p.2.2⟩ : S93)) (fun _ => rfl) (Rd.structS (d := (Kd.pair Kd.string (Kd.pair Kd.string Kd.string))) Tryd.underlying93 (by kernel_rfl) (RdF.cons rfl (by kernel_rfl) (Rd.string Tryd.underlying9) (by decide) (RdF.cons rfl (by kernel_rfl) (Rd.string Tryd.underlying9) (by decide) (RdF.one rfl (by kernel_rfl) (Rd.string Tryd.underlying9)))))
  exact h
def ok69 (x : S69) : Prop := x.f0.size ≤ 9223372036854775807 ∧ (Lit.float .f64 x.f1).wf = true
def mu69 (x : S69) : Nat := ((x.f0.size + 1) + 1) + 1
theorem o69 : Rd Tryd.prog 69 k69 ok69 mu69 := by
  have h := Rd.iso (fun x : S69 => (x.f0, x.f1)) (fun p : ByteArray × Nat => (⟨p.1, p.2⟩ : S69)) (fun _ => rfl) (Rd.structS (d := (Kd.pair Kd.string Kd.float)) Tryd.underlying69 (by kernel_rfl) (RdF.cons rfl (by kernel_rfl) (Rd.string Tryd.underlying9) (by decide) (RdF.one rfl (by kernel_rfl) (Rd.float Tryd.underlying56))))
  exact h
def ok67 (x : S67) : Prop := x.f0.size ≤ 9223372036854775807 ∧ (∀ y ∈ x.f1, ok69 y)
def mu67 (x : S67) : Nat := ((x.f0.size + 1) + ((x.f1.map (fun y => mu69 y)).sum + 1)) + 1
theorem o67 : Rd Tryd.prog 67 k67 ok67 mu67 := by
  have h := Rd.iso (fun x : S67 => (x.f0, x.f1)) (fun p : ByteArray × List (S69) => (⟨p.1, p.2⟩ : S67)) (fun _ => rfl) (Rd.structS (d := (Kd.pair Kd.string (Kd.slice 69 k69))) Tryd.underlying67 (by kernel_rfl) (RdF.cons rfl (by kernel_rfl) (Rd.string Tryd.underlying9) (by decide) (RdF.one rfl (by kernel_rfl) (Rd.slice Tryd.underlying65 (by kernel_rfl) o69))))
  exact h
structure S55 where
  f0 : Int
  f1 : List (S93)
  f2 : List (S67)
def k55 : Kd S55 := Kd.iso (Kd.pair (Kd.int .i64) (Kd.pair (Kd.slice 93 k93) (Kd.slice 67 k67))) (fun x : S55 => (x.f0, x.f1, x.f2))
theorem k55_open {w : World} {x : S55} {cs : List Value} (h : k55.K w x cs) : ∃ A1 c1 A2 c2, cs = [.int .i64 x.f0, .slice A1 x.f1.length c1, .slice A2 x.f2.length c2] ∧ x.f1.length ≤ c1 ∧ k93.C w A1 x.f1.length x.f1 ∧ x.f2.length ≤ c2 ∧ k67.C w A2 x.f2.length x.f2 := by
  obtain ⟨_, _, rfl, rfl, ⟨_, _, rfl, ⟨A1, c1, rfl, l1, g1⟩, ⟨A2, c2, rfl, l2, g2⟩⟩⟩ := h
  exact ⟨A1, c1, A2, c2, rfl, l1, g1, l2, g2⟩
def ok55 (x : S55) : Prop := (Lit.int .i64 x.f0).wf = true ∧ (∀ y ∈ x.f1, ok93 y) ∧ (∀ y ∈ x.f2, ok67 y)
def mu55 (x : S55) : Nat := (1 + (((x.f1.map (fun y => mu93 y)).sum + 1) + ((x.f2.map (fun y => mu67 y)).sum + 1))) + 1
theorem o55 : Rd Tryd.prog 55 k55 ok55 mu55 := by
  have h := Rd.iso (fun x : S55 => (x.f0, x.f1, x.f2)) (fun p : Int × List (S93) × List (S67) => (⟨p.1, p.2.1, p.2.2⟩ : S55)) (fun _ => rfl) (Rd.structS (d := (Kd.pair (Kd.int .i64) (Kd.pair (Kd.slice 93 k93) (Kd.slice 67 k67)))) Tryd.underlying55 (by kernel_rfl) (RdF.cons rfl (by kernel_rfl) (Rd.int Tryd.underlying3) (by decide) (RdF.cons rfl (by kernel_rfl) (Rd.slice Tryd.underlying52 (by kernel_rfl) o93) (by decide) (RdF.one rfl (by kernel_rfl) (Rd.slice Tryd.underlying53 (by kernel_rfl) o67)))))
  exact h
structure S72 where
  f0 : Int
  f1 : S55
  f2 : List Int
  f3 : Nat
def k72 : Kd S72 := Kd.iso (Kd.pair (Kd.int .i64) (Kd.pair k55 (Kd.pair (Kd.slice 5 (Kd.int .u8)) Kd.float))) (fun x : S72 => (x.f0, x.f1, x.f2, x.f3))
theorem k72_open {w : World} {x : S72} {cs : List Value} (h : k72.K w x cs) : ∃ A2 c2 A3 c3 A4 c4, cs = [.int .i64 x.f0, .int .i64 x.f1.f0, .slice A2 x.f1.f1.length c2, .slice A3 x.f1.f2.length c3, .slice A4 x.f2.length c4, .float .f64 x.f3] ∧ x.f1.f1.length ≤ c2 ∧ k93.C w A2 x.f1.f1.length x.f1.f1 ∧ x.f1.f2.length ≤ c3 ∧ k67.C w A3 x.f1.f2.length x.f1.f2 ∧ x.f2.length ≤ c4 ∧ (Kd.int .u8).C w A4 x.f2.length x.f2 := by
  obtain ⟨_, _, rfl, rfl, ⟨_, _, rfl, h1, ⟨_, _, rfl, ⟨A4, c4, rfl, l4, g4⟩, rfl⟩⟩⟩ := h
  obtain ⟨A2, c2, A3, c3, rfl, l2, g2, l3, g3⟩ := k55_open h1
  exact ⟨A2, c2, A3, c3, A4, c4, rfl, l2, g2, l3, g3, l4, g4⟩
def ok72 (x : S72) : Prop := (Lit.int .i64 x.f0).wf = true ∧ ok55 x.f1 ∧ (∀ y ∈ x.f2, (Lit.int .u8 y).wf = true) ∧ (Lit.float .f64 x.f3).wf = true
def mu72 (x : S72) : Nat := (1 + (mu55 x.f1 + (((x.f2.map (fun y => 1)).sum + 1) + 1))) + 1
theorem o72 : Rd Tryd.prog 72 k72 ok72 mu72 := by
  have h := Rd.iso (fun x : S72 => (x.f0, x.f1, x.f2, x.f3)) (fun p : Int × S55 × List Int × Nat => (⟨p.1, p.2.1, p.2.2.1, p.2.2.2⟩ : S72)) (fun _ => rfl) (Rd.structS (d := (Kd.pair (Kd.int .i64) (Kd.pair k55 (Kd.pair (Kd.slice 5 (Kd.int .u8)) Kd.float)))) Tryd.underlying72 (by kernel_rfl) (RdF.cons rfl (by kernel_rfl) (Rd.int Tryd.underlying3) (by decide) (RdF.cons rfl (by kernel_rfl) o55 (by decide) (RdF.cons rfl (by kernel_rfl) (Rd.slice Tryd.underlying22 (by kernel_rfl) (Rd.int Tryd.underlying5)) (by decide) (RdF.one rfl (by kernel_rfl) (Rd.float Tryd.underlying56))))))
  exact h
end Go.Proofs.YtabkdmfnafeaeaaDoor.S
end
section
namespace Go.Proofs.YtabkdmfnafeaeaaDoor.HP
open Go.RowKit Go.Proofs.YtabkdmfnafeaeaaDoor.S Go.Proofs.YtabkdmfnafeaeaaDoorW.PrintWords Go.Proofs.YtabkdmfnafeaeaaDoorW.PrintLast Go.Proofs.YtabkdmfnafeaeaaDoorW.PrintMore
theorem Ev.pos {α : Type} {c : Prop} [Decidable c] {a b : Nat → Option α} {r : α} (hc : c) (h : Ev a r) : Ev (fun k => if c then a k else b k) r := Ev.congr (fun _ => if_pos hc) h
theorem Ev.neg {α : Type} {c : Prop} [Decidable c] {a b : Nat → Option α} {r : α} (hc : ¬ c) (h : Ev b r) : Ev (fun k => if c then a k else b k) r := Ev.congr (fun _ => if_neg hc) h
theorem Ev.put {α β : Type} {x : β} {f : Nat → β → Option α} {r : α} (h : Ev (fun k => f k x) r) : Ev (fun k => (some x).bind (f k)) r := h
theorem Ev.call {α β : Type} {g : Option β} {x : β} {f : Nat → β → Option α} {r : α} (hg : g = some x) (h : Ev (fun k => f k x) r) : Ev (fun k => g.bind (f k)) r := by rw [hg]; exact h
theorem Ev.ret {α : Type} {a r : α} (h : a = r) : Ev (fun _ => some a) r := by rw [h]; exact Ev.now _
/-- a text of bytes -/
def B (l : List UInt8) : ByteArray := ⟨l.toArray⟩
theorem B_list (l : List UInt8) : (B l).data.toList = l := by simp [B]
theorem B_of (s : ByteArray) : B s.data.toList = s := by simp [B]
theorem B_size (l : List UInt8) : (B l).size = l.length := by simp [B, ByteArray.size]
theorem B_toList (l : List UInt8) : (B l).toList = l := by rw [Lib.toList_data, B_list]
theorem B_bt (l : List UInt8) (i : Nat) (hi : i < l.length) : bt (B l) (i : Int) = ((l[i]).toNat : Int) := by
  unfold bt
  rw [dif_pos (by rw [Int.toNat_natCast, B_size]; exact hi)]
  simp only [Int.toNat_natCast]
  rfl
theorem B_extract (l : List UInt8) (i j : Nat) : (B l).extract i j = B ((l.drop i).take (j - i)) := by
  rw [← B_of ((B l).extract i j), Lib.extract_data, B_list]
theorem wrap_succ (i : Nat) (h : i < 9223372036854775807) : wrap64 ((i : Int) + 1) = ((i + 1 : Nat) : Int) := by unfold wrap64; omega
theorem Cut_is (s sep : List UInt8) (hs : s.length < 4294967281) : strings_Cut.f (B s) (B sep) = some (B (Lib.cut s sep).1, B (Lib.cut s sep).2.1, (Lib.cut s sep).2.2) := by
  unfold strings_Cut.f
  rw [if_pos (by rw [B_size]; exact hs), B_list, B_list]
  rfl
theorem Split_is (s sep : List UInt8) (hs : s.length < 4294967281) (h1 : 1 ≤ sep.length) : strings_Split.f (B s) (B sep) = some ((Lib.split s sep).map B) := by
  unfold strings_Split.f
  rw [if_pos ⟨by rw [B_size]; exact hs, by rw [B_size]; exact h1⟩]
  congr 1
  have h := Lib.splitB_data (B sep) 0 (Lib.countB (B s) (B sep)) (B s)
  rw [B_list, B_list] at h
  have hc : Lib.countB (B s) (B sep) = Lib.count s sep := by
    show Lib.count _ _ = _
    rw [B_list, B_list]
  unfold Lib.split
  rw [← hc, ← h, List.map_map]
  conv => lhs; rw [← List.map_id (Lib.splitB (B sep) 0 (Lib.countB (B s) (B sep)) (B s))]
  apply List.map_congr_left
  intro x _
  exact (B_of x).symm
/-! bytes -/
theorem N8_B (l : List UInt8) : bytesOf (B l) = l.map (fun b => (b.toNat : Int)) := by rw [bytesOf, B_list]
theorem N8_back (l : List UInt8) : Lib.bytesOf (l.map (fun b => (b.toNat : Int))) = l := by
  unfold Lib.bytesOf
  rw [List.map_map]
  conv => rhs; rw [← List.map_id l]
  apply List.map_congr_left
  intro b _
  simp
theorem strOf_N8 (l : List UInt8) : strOfNums (l.map (fun b => (b.toNat : Int))) = B l := by
  unfold strOfNums B
  congr 2
  exact N8_back l
theorem N8_all (l : List UInt8) : ((l.map (fun b => (b.toNat : Int))).all fun x => decide (0 ≤ x ∧ x < 256)) = true := by
  rw [List.all_eq_true]
  intro x hx
  obtain ⟨b, _, rfl⟩ := List.mem_map.1 hx
  have := b.toNat_lt
  exact decide_eq_true ⟨by omega, by omega⟩
theorem Index_is (l sub : List UInt8) (hl : l.length < 4294967281) (h2 : 2 ≤ sub.length) (h3 : sub.length ≤ 100) : bytes_Index.f (l.map (fun b => (b.toNat : Int))) (sub.map (fun b => (b.toNat : Int))) = some (Lib.index l sub) := by
  unfold bytes_Index.f
  rw [if_pos ⟨N8_all l, N8_all sub, by rw [List.length_map]; exact hl, by rw [List.length_map]; exact h2, by rw [List.length_map]; omega⟩, N8_back, N8_back]
theorem Lower_is (l : List UInt8) (hl : l.length ≤ 4294967296) : head_lower.f (B l) = some (B (l.map lowB)) := by
  unfold head_lower.f
  rw [if_pos (by rw [B_size]; omega), B_list]
  rfl
theorem Trim_is (l cs : List UInt8) (hl : l.length ≤ 4294967296) (hc : cs.length ≤ 100) (ha : cs.all (fun b => decide (b.toNat < 128)) = true) : strings_Trim.f (B l) (B cs) = some (B (Lib.trimS l cs)) := by
  unfold strings_Trim.f
  rw [if_pos ⟨by rw [B_size]; omega, by rw [B_size]; omega, by rw [B_list]; exact ha⟩, B_list, B_list]
  rfl
/-! tokens -/
def alB (b : UInt8) : Bool := decide (97 ≤ b.toNat ∧ b.toNat ≤ 122 ∨ 65 ≤ b.toNat ∧ b.toNat ≤ 90 ∨ 48 ≤ b.toNat ∧ b.toNat ≤ 57)
def tokB (b : UInt8) : Bool := alB b || decide (0 ≤ Lib.indexByte [33, 35, 36, 37, 38, 39, 42, 43, 45, 46, 94, 95, 96, 124, 126] b)
def tokOk (l : List UInt8) : Bool := l.all tokB && (l != [])
theorem alnum_is (b : UInt8) : head_alnum.f (b.toNat : Int) = some (alB b) := by
  unfold head_alnum.f alB
  repeat' split
  all_goals simp only [Option.some.injEq]
  all_goals first
    | (symm; rw [decide_eq_true_eq]; omega)
    | (rw [decide_eq_decide]; omega)
    | (symm; rw [decide_eq_false_iff_not]; omega)
theorem token_loop (l : List UInt8) (hl : l.length ≤ 4294967296) : ∀ (d i : Nat), i + d = l.length → Ev (fun k => head_token.l0 k (B l) (l.length : Int) (i : Int)) ((l.drop i).all tokB && (l != [])) := by
  intro d
  induction d with
  | zero =>
    intro i hi
    refine Ev.step (fun k => by simp only [head_token.l0]; rfl) (Ev.neg (by omega) (Ev.ret ?_))
    rw [B_toList, List.drop_eq_nil_of_le (by omega)]
    simp
  | succ d ih =>
    intro i hi
    have hlt : i < l.length := by omega
    have hw := wrap_succ i (by omega)
    have hd : l.drop i = l[i] :: l.drop (i + 1) := List.drop_eq_getElem_cons hlt
    have hx : (B l).extract (i : Int).toNat ((i + 1 : Nat) : Int).toNat = B [l[i]] := by
      rw [Int.toNat_natCast, Int.toNat_natCast, B_extract, hd, Nat.add_sub_cancel_left]
      rfl
    have hi' := ih (i + 1) (by omega)
    refine Ev.step (fun k => by simp only [head_token.l0]; rfl) ?_
    refine Ev.pos (by omega) (Ev.pos (by omega) (Ev.pos (by rw [B_size]; omega) ?_))
    rw [B_bt l i hlt, hw]
    refine Ev.call (alnum_is _) ?_
    rw [hd, List.all_cons]
    cases hA : alB l[i] with
    | true =>
      refine Ev.pos rfl ?_
      have ht : tokB l[i] = true := by simp [tokB, hA]
      rw [ht, Bool.true_and]
      exact hi'
    | false =>
      refine Ev.neg (by simp) (Ev.pos (by omega) (Ev.pos (by rw [B_size]; omega) ?_))
      rw [hx]
      have hc : strings_Contains.f (⟨#[33, 35, 36, 37, 38, 39, 42, 43, 45, 46, 94, 95, 96, 124, 126]⟩ : ByteArray) (B [l[i]]) = some (tokB l[i]) := by
        unfold strings_Contains.f
        rw [if_pos (by rw [B_size]; rfl), B_list]
        simp [tokB, hA]
      refine Ev.call hc ?_
      cases ht : tokB l[i] with
      | true => exact Ev.pos rfl (by rw [Bool.true_and]; exact hi')
      | false => exact Ev.neg (by simp) (Ev.ret (by simp))
theorem token_is (l : List UInt8) (hl : l.length ≤ 4294967296) : Ev (fun k => head_token.f k (B l)) (tokOk l) := by
  unfold head_token.f
  rw [B_size]
  exact token_loop l hl l.length 0 (by omega)
/-! values -/
def blankB (b : UInt8) : Bool := decide (b.toNat = 9 ∨ b.toNat = 32)
def valB (b : UInt8) : Bool := decide ((b.toNat = 9 ∨ 32 ≤ b.toNat) ∧ b.toNat ≠ 127)
def endsOk (l : List UInt8) : Bool := match l with
  | [] => true
  | x :: r => !blankB x && !blankB ((x :: r).getLastD 0)
def valOk (l : List UInt8) : Bool := l.all valB && endsOk l
theorem blank_is (b : UInt8) : head_blank.f (b.toNat : Int) = some (blankB b) := by
  unfold head_blank.f blankB
  split
  · rename_i h
    simp only [Option.some.injEq]
    symm
    rw [decide_eq_true_eq]
    omega
  · rename_i h
    simp only [Option.some.injEq]
    rw [show ((b.toNat : Int) == 32) = decide ((b.toNat : Int) = 32) from rfl, decide_eq_decide]
    omega
theorem value_loop (l : List UInt8) (hl : l.length ≤ 4294967296) : ∀ (d i : Nat), i + d = l.length → Ev (fun k => head_value.l0 k (B l) (l.length : Int) (i : Int)) ((l.drop i).all valB && endsOk l) := by
  intro d
  induction d with
  | zero =>
    intro i hi
    refine Ev.step (fun k => by simp only [head_value.l0]; rfl) (Ev.neg (by omega) ?_)
    rw [B_toList, List.drop_eq_nil_of_le (by omega), List.all_nil, Bool.true_and]
    cases hc : l with
    | nil => exact Ev.pos rfl (Ev.ret rfl)
    | cons x r =>
      have hE : endsOk (x :: r) = (!blankB x && !blankB (l.getLastD 0)) := by rw [hc]; rfl
      rw [hE, ← hc]
      clear hE
      have h0 : 0 < l.length := by rw [hc]; simp
      have hb0 : bt (B l) 0 = (x.toNat : Int) := by
        have := B_bt l 0 h0
        simpa [hc] using this
      have hw : wrap64 (((B l).size : Int) - 1) = ((l.length - 1 : Nat) : Int) := by rw [B_size]; unfold wrap64; omega
      have hbl : bt (B l) ((l.length - 1 : Nat) : Int) = ((l.getLastD 0).toNat : Int) := by
        rw [B_bt l (l.length - 1) (by omega)]
        congr 2
        rw [List.getLastD_eq_getLast?, List.getLast?_eq_getElem?, List.getElem?_eq_getElem (by omega)]
        rfl
      refine Ev.neg (by rw [hc]; simp) (Ev.pos (by rw [B_size]; omega) ?_)
      rw [hb0]
      refine Ev.call (blank_is x) ?_
      cases hx : blankB x with
      | true => exact Ev.pos rfl (Ev.ret rfl)
      | false =>
        refine Ev.neg (by simp) ?_
        rw [hw, hbl]
        exact Ev.pos (by omega) (Ev.pos (by rw [B_size]; omega) (Ev.call (blank_is _) (Ev.ret (by simp))))
  | succ d ih =>
    intro i hi
    have hlt : i < l.length := by omega
    have hw := wrap_succ i (by omega)
    have hd : l.drop i = l[i] :: l.drop (i + 1) := List.drop_eq_getElem_cons hlt
    have hi' := ih (i + 1) (by omega)
    refine Ev.step (fun k => by simp only [head_value.l0]; rfl) ?_
    refine Ev.pos (by omega) (Ev.pos (by omega) (Ev.pos (by rw [B_size]; omega) ?_))
    rw [B_bt l i hlt, hw, hd, List.all_cons]
    cases hv : valB l[i] with
    | true =>
      have hv' : (l[i].toNat = 9 ∨ 32 ≤ l[i].toNat) ∧ l[i].toNat ≠ 127 := of_decide_eq_true hv
      rw [Bool.true_and]
      by_cases h9 : (l[i].toNat : Int) = 9
      · exact Ev.pos h9 (Ev.neg (by omega) hi')
      · exact Ev.neg h9 (Ev.neg (by omega) (Ev.neg (by omega) hi'))
    | false =>
      have hv' : ¬ ((l[i].toNat = 9 ∨ 32 ≤ l[i].toNat) ∧ l[i].toNat ≠ 127) := of_decide_eq_false hv
      rw [Bool.false_and, Bool.false_and]
      by_cases h9 : (l[i].toNat : Int) = 9
      · exact absurd hv' (by omega)
      · refine Ev.neg h9 ?_
        by_cases h32 : (l[i].toNat : Int) < 32
        · exact Ev.pos h32 (Ev.ret rfl)
        · exact Ev.neg h32 (Ev.pos (by omega) (Ev.ret rfl))
theorem value_is (l : List UInt8) (hl : l.length ≤ 4294967296) : Ev (fun k => head_value.f k (B l)) (valOk l) := by
  unfold head_value.f
  rw [B_size]
  exact value_loop l hl l.length 0 (by omega)
end Go.Proofs.YtabkdmfnafeaeaaDoor.HP
end
section
namespace Go.Proofs.YtabkdmfnafeaeaaDoor.PP
open Go.RowKit Go.Proofs.YtabkdmfnafeaeaaDoor.S Go.Proofs.YtabkdmfnafeaeaaDoorW.PrintWords Go.Proofs.YtabkdmfnafeaeaaDoorW.PrintLast Go.Proofs.YtabkdmfnafeaeaaDoorW.PrintMore
theorem Ev.pos {α : Type} {c : Prop} [Decidable c] {a b : Nat → Option α} {r : α} (hc : c) (h : Ev a r) : Ev (fun k => if c then a k else b k) r := Ev.congr (fun _ => if_pos hc) h
theorem Ev.neg {α : Type} {c : Prop} [Decidable c] {a b : Nat → Option α} {r : α} (hc : ¬ c) (h : Ev b r) : Ev (fun k => if c then a k else b k) r := Ev.congr (fun _ => if_neg hc) h
theorem Ev.put {α β : Type} {x : β} {f : Nat → β → Option α} {r : α} (h : Ev (fun k => f k x) r) : Ev (fun k => (some x).bind (f k)) r := h
theorem Ev.call {α β : Type} {g : Option β} {x : β} {f : Nat → β → Option α} {r : α} (hg : g = some x) (h : Ev (fun k => f k x) r) : Ev (fun k => g.bind (f k)) r := by rw [hg]; exact h
theorem Ev.ret {α : Type} {a r : α} (h : a = r) : Ev (fun _ => some a) r := by rw [h]; exact Ev.now _
theorem live_is : Ev (fun k => tollgatelaw10_live.f k) true :=
  Ev.of (k := 12) (fun k => tollgatelaw10_live.mono k) (by decide +kernel)

/-! what a prefix fits -/
theorem toList_nil (s : ByteArray) : s.toList = [] ↔ s.size = 0 := by
  rw [ByteArray.toList_eq, ← List.length_eq_zero_iff, Array.length_toList]
  rfl
theorem bt_extract (s : ByteArray) (a : Nat) : bt (s.extract a s.size) 0 = bt s (a : Int) := by
  unfold bt
  simp only [Int.toNat_natCast, show (0 : Int).toNat = 0 from rfl]
  by_cases h : a < s.size
  · rw [dif_pos (by rw [ByteArray.size_extract]; omega), dif_pos h]
    simp [ByteArray.getElem_extract]
  · rw [dif_neg (by rw [ByteArray.size_extract]; omega), dif_neg h]
theorem last_is (p : ByteArray) (h : 1 ≤ p.size) (c : UInt8) : ((p.extract (p.size - 1) p.size).toList == [c]) = (bt p ((p.size - 1 : Nat) : Int) == (c.toNat : Int)) := by
  have e : (p.extract (p.size - 1) p.size).toList = [p[p.size - 1]'(by omega)] := by
    rw [ByteArray.toList_eq]
    apply List.ext_getElem?
    intro i
    rw [ByteArray.data_extract, Array.getElem?_toList]
    by_cases hi : i = 0
    · subst hi
      rw [Array.getElem?_eq_getElem (by simp; have : p.size = p.data.size := rfl; omega)]
      simp
      rfl
    · rw [Array.getElem?_eq_none (by simp; have : p.size = p.data.size := rfl; omega), List.getElem?_eq_none (by simp; omega)]
  have e2 : bt p ((p.size - 1 : Nat) : Int) = ((p[p.size - 1]'(by omega)).toNat : Int) := by
    unfold bt
    rw [dif_pos (by simp only [Int.toNat_natCast]; omega)]
    simp
  rw [e, e2, Bool.eq_iff_iff]
  simp only [beq_iff_eq, List.cons.injEq, and_true]
  constructor
  · intro h; rw [h]
  · intro h; exact UInt8.toNat_inj.1 (by omega)
def fitsB (p s : ByteArray) : Bool := if p.size ≤ s.size then (if (s.extract 0 p.size).toList = p.toList then (decide (s.size = p.size) || (bt s (p.size : Int) == 47 || (decide (1 ≤ p.size) && bt p ((p.size - 1 : Nat) : Int) == 47))) else false) else false
theorem ext_list (s : ByteArray) (i j : Nat) : (s.extract i j).toList = (s.data.toList.drop i).take (j - i) := by
  have h : s = HP.B s.data.toList := (HP.B_of s).symm
  rw [show s.extract i j = (HP.B s.data.toList).extract i j from by rw [← h], HP.B_extract, HP.B_toList]
theorem cutP_is (p s : ByteArray) : strings_CutPrefix.f s p = some (if p.size ≤ s.size ∧ (s.extract 0 p.size).toList = p.toList then (s.extract p.size s.size, true) else (s, false)) := by
  have hs : s.data.toList.length = s.size := by simp
  have hp : p.data.toList.length = p.size := by simp
  have hx : Lib.hasPrefix s.data.toList p.data.toList = true ↔ (p.size ≤ s.size ∧ (s.extract 0 p.size).toList = p.toList) := by
    unfold Lib.hasPrefix
    rw [List.isPrefixOf_iff_prefix, List.prefix_iff_eq_take, ext_list, Lib.toList_data, hp]
    simp only [List.drop_zero, Nat.sub_zero]
    constructor
    · intro h
      refine ⟨?_, h.symm⟩
      have := congrArg List.length h
      rw [List.length_take, hs, hp] at this
      omega
    · intro h
      exact h.2.symm
  unfold strings_CutPrefix.f
  by_cases h : p.size ≤ s.size ∧ (s.extract 0 p.size).toList = p.toList
  · rw [if_pos h, hx.2 h]
    unfold Lib.trimPrefix
    rw [if_pos (hx.2 h)]
    have he : s.extract p.size s.size = HP.B (s.data.toList.drop p.data.toList.length) := by
      have h0 : s = HP.B s.data.toList := (HP.B_of s).symm
      rw [show s.extract p.size s.size = (HP.B s.data.toList).extract p.size s.size from by rw [← h0], HP.B_extract, hp, List.take_of_length_le (by rw [List.length_drop, hs]; omega)]
    rw [he]
    rfl
  · have hf : Lib.hasPrefix s.data.toList p.data.toList = false := by
      cases hb : Lib.hasPrefix s.data.toList p.data.toList
      · rfl
      · exact absurd (hx.1 hb) h
    rw [if_neg h, hf]
    unfold Lib.trimPrefix
    rw [hf]
    simp
theorem fits_is (p s : ByteArray) (hs : s.size ≤ 4611686018427387904) : plane_fits.f p s = some (fitsB p s) := by
  unfold plane_fits.f fitsB
  rw [cutP_is]
  by_cases h1 : p.size ≤ s.size
  · rw [if_pos h1]
    by_cases h2 : (s.extract 0 p.size).toList = p.toList
    · have e : (if p.size ≤ s.size ∧ (s.extract 0 p.size).toList = p.toList then (s.extract p.size s.size, true) else (s, false)) = (s.extract p.size s.size, true) := if_pos ⟨h1, h2⟩
      rw [e, if_pos h2]
      simp only [Option.bind_some, if_true]
      have hsz : (s.extract p.size s.size).size = s.size - p.size := by rw [ByteArray.size_extract]; omega
      by_cases h3 : s.size = p.size
      · rw [if_pos ((toList_nil _).2 (by omega))]
        simp [h3]
      · rw [if_neg (fun h => h3 (by have := (toList_nil _).1 h; omega))]
        unfold strings_HasSuffix.f stringslite_HasSuffix.f
        have hsl : (⟨#[47]⟩ : ByteArray).size = 1 := rfl
        have hw : wrap64 ((p.size : Int) - ((⟨#[47]⟩ : ByteArray).size : Int)) = (p.size : Int) - 1 := by rw [hsl]; unfold wrap64; omega
        by_cases h4 : 1 ≤ p.size
        · rw [if_pos (by rw [hsl]; omega), hw, if_pos (by omega), if_pos (by omega)]
          have ht : ((p.size : Int) - 1).toNat = p.size - 1 := by omega
          rw [ht]
          simp only [Option.bind_some]
          have hl := last_is p h4 47
          rw [show (⟨#[47]⟩ : ByteArray).toList = [47] from by rw [ByteArray.toList_eq], hl, bt_extract]
          rw [if_pos (show 0 < ((s.extract p.size s.size).size : Int) by omega)]
          simp only [h3, h4, decide_false, decide_true, Bool.false_or, Bool.true_and]
          rw [show ((47 : UInt8).toNat : Int) = 47 from rfl]
          cases bt p ((p.size - 1 : Nat) : Int) == 47 <;> simp
        · rw [if_neg (by rw [hsl]; omega)]
          simp only [Option.bind_some, Bool.false_eq_true, if_false]
          rw [if_pos (show 0 < ((s.extract p.size s.size).size : Int) by omega), bt_extract]
          simp [h3, h4]
    · have e : (if p.size ≤ s.size ∧ (s.extract 0 p.size).toList = p.toList then (s.extract p.size s.size, true) else (s, false)) = (s, false) := if_neg (fun h => h2 h.2)
      rw [e, if_neg h2]
      simp
  · have e : (if p.size ≤ s.size ∧ (s.extract 0 p.size).toList = p.toList then (s.extract p.size s.size, true) else (s, false)) = (s, false) := if_neg (fun h => h1 h.1)
    rw [e, if_neg h1]
    simp
end Go.Proofs.YtabkdmfnafeaeaaDoor.PP
end
section
namespace Go.Proofs.YtabkdmfnafeaeaaDoor.PP
open Go.RowKit Go.Proofs.YtabkdmfnafeaeaaDoor.S Go.Proofs.YtabkdmfnafeaeaaDoorW.PrintWords Go.Proofs.YtabkdmfnafeaeaaDoorW.PrintLast Go.Proofs.YtabkdmfnafeaeaaDoorW.PrintMore
abbrev Found := ByteArray × ByteArray × ByteArray × Bool
def nofound : Found := (⟨#[]⟩, ⟨#[]⟩, ⟨#[]⟩, false)
def may (h s : ByteArray) (r : S93) : Bool := r.f0.toList == h.toList && fitsB r.f1 s
def findStep (h s : ByteArray) (a : Found) (r : S93) : Found := if may h s r = true then (if a.2.2.2 = true then (if (r.f1.size : Int) > (a.2.1.size : Int) then (r.f0, r.f1, r.f2, true) else a) else (r.f0, r.f1, r.f2, true)) else a
def findF (h s : ByteArray) (l : List S93) : Found := l.foldl (findStep h s) nofound
theorem rd_drop {l : List S93} {i : Nat} (h : i < l.length) : l.drop i = rd_T93 l (i : Int) :: l.drop (i + 1) := by
  rw [List.drop_eq_getElem_cons h]
  simp [rd_T93, List.getD_eq_getElem?_getD, List.getElem?_eq_getElem h]
theorem Find_loop (h s : ByteArray) (hs : s.size ≤ 4611686018427387904) (l : List S93) (hl : l.length ≤ 9223372036854775806) : ∀ (d i : Nat), i + d = l.length → ∀ a : Found,
    Ev (fun k => plane_Find.l0 k h s a.2.2.2 l (l.length : Int) (i : Int) a.1 a.2.1 a.2.2.1) ((l.drop i).foldl (findStep h s) a) := by
  intro d
  induction d with
  | zero =>
    intro i hi a
    refine Ev.step (fun k => by simp only [plane_Find.l0]; rfl) (Ev.neg (by omega) (Ev.ret ?_))
    rw [List.drop_eq_nil_of_le (by omega)]
    rfl
  | succ d ih =>
    intro i hi a
    have hlt : i < l.length := by omega
    have hw : wrap64 ((i : Int) + 1) = ((i + 1 : Nat) : Int) := by unfold wrap64; omega
    rw [rd_drop hlt, List.foldl_cons]
    generalize hr : rd_T93 l (i : Int) = r
    refine Ev.step (fun k => by simp only [plane_Find.l0]; rw [hr]) (Ev.pos (by omega) (Ev.pos (by omega) (Ev.pos (by omega) ?_)))
    rw [hw]
    have hn := ih (i + 1) (by omega) (findStep h s a r)
    by_cases h1 : r.f0.toList = h.toList
    · refine Ev.pos h1 (Ev.call (fits_is r.f1 s hs) ?_)
      by_cases h2 : fitsB r.f1 s = true
      · have hm : may h s r = true := by unfold may; rw [h1, h2]; simp
        refine Ev.pos h2 ?_
        by_cases h3 : a.2.2.2 = true
        · refine Ev.pos h3 ?_
          by_cases h4 : (r.f1.size : Int) > (a.2.1.size : Int)
          · have e : findStep h s a r = (r.f0, r.f1, r.f2, true) := by unfold findStep; rw [if_pos hm, if_pos h3, if_pos h4]
            rw [e] at hn ⊢
            exact Ev.pos h4 hn
          · have e : findStep h s a r = a := by unfold findStep; rw [if_pos hm, if_pos h3, if_neg h4]
            rw [e] at hn ⊢
            exact Ev.neg h4 hn
        · have e : findStep h s a r = (r.f0, r.f1, r.f2, true) := by unfold findStep; rw [if_pos hm, if_neg h3]
          rw [e] at hn ⊢
          exact Ev.neg h3 hn
      · have hm : may h s r = false := by unfold may; simp [h2]
        have e : findStep h s a r = a := by unfold findStep; rw [if_neg (by simp [hm])]
        rw [e] at hn ⊢
        exact Ev.neg h2 hn
    · have hm : may h s r = false := by unfold may; simp [h1]
      have e : findStep h s a r = a := by unfold findStep; rw [if_neg (by simp [hm])]
      rw [e] at hn ⊢
      exact Ev.neg h1 hn
theorem Find_is (v : Int) (l : List S93) (ps : List S67) (h s : ByteArray) (hs : s.size ≤ 4611686018427387904) (hl : l.length ≤ 9223372036854775806) : Ev (fun k => plane_Find.f k v l ps h s) (findF h s l) := by
  unfold plane_Find.f
  exact Find_loop h s hs l hl l.length 0 (by omega) nofound
end Go.Proofs.YtabkdmfnafeaeaaDoor.PP
end
section
namespace Go.Proofs.YtabkdmfnafeaeaaDoor.PP
open Go.RowKit Go.Proofs.YtabkdmfnafeaeaaDoor.S Go.Proofs.YtabkdmfnafeaeaaDoorW.PrintWords Go.Proofs.YtabkdmfnafeaeaaDoorW.PrintLast Go.Proofs.YtabkdmfnafeaeaaDoorW.PrintMore
theorem step64 {i n : Nat} (h : i < n) (hn : n ≤ 9223372036854775806) : wrap64 ((i : Int) + 1) = ((i + 1 : Nat) : Int) := by unfold wrap64; omega
theorem rd53_drop {l : List S67} {i : Nat} (h : i < l.length) : l.drop i = rd_T67 l (i : Int) :: l.drop (i + 1) := by
  rw [List.drop_eq_getElem_cons h]
  simp [rd_T67, List.getD_eq_getElem?_getD, List.getElem?_eq_getElem h]
/-! a small configuration -/
theorem short_loop (v : Int) (l : List S93) (ps : List S67) : ∀ (m : Nat) (n : Nat) (i : Nat), 202 ≤ m + n → n ≤ 100000 → i ≤ n → i ≤ ps.length →
    ∃ b, Ev (fun k => tollgatelaw10_short.l0 k (n : Int) (i : Int) v l ps) b ∧ (b = true → l.length ≤ 200 ∧ ps.length ≤ 200 ∧ ∀ p ∈ ps.drop i, p.f1.length ≤ 200) := by
  intro m
  induction m with
  | zero =>
    intro n i hm _ hi hl
    refine ⟨false, ?_, by simp⟩
    by_cases h1 : i < ps.length
    · exact Ev.step (fun k => by simp only [tollgatelaw10_short.l0]; rfl) (Ev.pos (by omega) (Ev.neg (by omega) (Ev.ret rfl)))
    · exact Ev.step (fun k => by simp only [tollgatelaw10_short.l0]; rfl) (Ev.neg (by omega) (Ev.neg (by omega) (Ev.ret rfl)))
  | succ m ih =>
    intro n i hm hn hi hl
    by_cases h1 : i < ps.length
    · by_cases h2 : n ≤ 200
      · generalize ht : (rd_T67 ps (i : Int)) = p
        have hw : ∃ n' : Nat, wrap64 ((n : Int) + (1 + mn ((p.f1.length : Nat) : Int) 1000)) = (n' : Int) ∧ n + 1 ≤ n' ∧ n' ≤ n + 1001 ∧ (n' ≤ 201 → p.f1.length ≤ 200) := by
          unfold mn wrap64
          by_cases h3 : (1000 : Int) < p.f1.length
          · rw [if_pos h3]; exact ⟨n + 1001, by omega, by omega, by omega, by omega⟩
          · rw [if_neg h3]; exact ⟨n + 1 + p.f1.length, by omega, by omega, by omega, by omega⟩
        obtain ⟨n', e, a1, a2, a3⟩ := hw
        obtain ⟨b, hb, hq⟩ := ih n' (i + 1) (by omega) (by omega) (by omega) (by omega)
        refine ⟨b, Ev.step (fun k => by simp only [tollgatelaw10_short.l0]; rfl) (Ev.pos (by omega) (Ev.pos (by omega) (Ev.pos (by omega) ?_))), ?_⟩
        · rw [ht, e, show wrap64 ((i : Int) + 1) = ((i + 1 : Nat) : Int) by unfold wrap64; omega]
          exact hb
        · intro hbt
          obtain ⟨q1, q2, q3⟩ := hq hbt
          refine ⟨q1, q2, ?_⟩
          rw [rd53_drop h1, ht]
          intro x hx
          rcases List.mem_cons.1 hx with rfl | hx
          · by_cases h4 : n' ≤ 201
            · exact a3 h4
            · exfalso
              have : b = false := by
                have hb2 : Ev (fun k => tollgatelaw10_short.l0 k (n' : Int) ((i + 1 : Nat) : Int) v l ps) false := by
                  by_cases h5 : i + 1 < ps.length
                  · exact Ev.step (fun k => by simp only [tollgatelaw10_short.l0]; rfl) (Ev.pos (by omega) (Ev.neg (by omega) (Ev.ret rfl)))
                  · exact Ev.step (fun k => by simp only [tollgatelaw10_short.l0]; rfl) (Ev.neg (by omega) (Ev.neg (by omega) (Ev.ret rfl)))
                obtain ⟨K1, h6⟩ := hb
                obtain ⟨K2, h7⟩ := hb2
                have e1 := h6 (K1 + K2) (by omega)
                have e2 := h7 (K1 + K2) (by omega)
                exact Option.some.inj (e1.symm.trans e2)
              rw [this] at hbt
              cases hbt
          · exact q3 x hx
      · refine ⟨false, ?_, by simp⟩
        exact Ev.step (fun k => by simp only [tollgatelaw10_short.l0]; rfl) (Ev.pos (by omega) (Ev.neg (by omega) (Ev.ret rfl)))
    · by_cases h2 : n ≤ 200
      · refine ⟨decide ((l.length : Int) ≤ 200), ?_, ?_⟩
        · exact Ev.step (fun k => by simp only [tollgatelaw10_short.l0]; rfl) (Ev.neg (by omega) (Ev.pos (by omega) (Ev.ret rfl)))
        · intro h
          have := of_decide_eq_true h
          refine ⟨by omega, by omega, ?_⟩
          rw [List.drop_eq_nil_of_le (by omega)]
          simp
      · refine ⟨false, ?_, by simp⟩
        exact Ev.step (fun k => by simp only [tollgatelaw10_short.l0]; rfl) (Ev.neg (by omega) (Ev.neg (by omega) (Ev.ret rfl)))
/-- Is a configuration small? What it says; and if so, that nothing of it is long. -/
theorem short_is (v : Int) (l : List S93) (ps : List S67) : ∃ b, Ev (fun k => tollgatelaw10_short.f k v l ps) b ∧ (b = true → l.length ≤ 200 ∧ ps.length ≤ 200 ∧ ∀ p ∈ ps, p.f1.length ≤ 200) := by
  obtain ⟨b, hb, hq⟩ := short_loop v l ps 202 0 0 (by omega) (by omega) (by omega) (by omega)
  exact ⟨b, by unfold tollgatelaw10_short.f; exact hb, by rw [List.drop_zero] at hq; exact hq⟩
/-! a copy -/
theorem SameTargets_is (l : List S69) (hl : l.length ≤ 200) : Ev (fun k => tollgateref08_SameTargets.f k l l) true := by
  unfold tollgateref08_SameTargets.f
  refine Ev.pos rfl ?_
  have loop : ∀ (d i : Nat), i + d = l.length → Ev (fun k => tollgateref08_SameTargets.l0 k l l (i : Int)) true := by
    intro d
    induction d with
    | zero => intro i hi; exact Ev.step (fun k => by simp only [tollgateref08_SameTargets.l0]; rfl) (Ev.neg (by omega) (Ev.ret rfl))
    | succ d ih =>
      intro i hi
      refine Ev.step (fun k => by simp only [tollgateref08_SameTargets.l0]; rfl) (Ev.pos (by omega) (Ev.pos (by omega) (Ev.pos (by omega) ?_)))
      refine Ev.pos trivial ?_
      refine Ev.pos trivial ?_
      rw [step64 (show i < l.length by omega) (by omega)]
      exact ih (i + 1) (by omega)
  exact loop l.length 0 (by omega)
theorem Same_is (v : Int) (l : List S93) (ps : List S67) (hl : l.length ≤ 200) (hp : ps.length ≤ 200) (ht : ∀ p ∈ ps, p.f1.length ≤ 200) : Ev (fun k => tollgateref08_SameConfig.f k v l ps v l ps) true := by
  unfold tollgateref08_SameConfig.f
  have loop1 : ∀ (d i : Nat), i + d = l.length → Ev (fun k => tollgateref08_SameConfig.l1 k (i : Int) v l ps v l ps) true := by
    intro d
    induction d with
    | zero => intro i hi; exact Ev.step (fun k => by simp only [tollgateref08_SameConfig.l1]; rfl) (Ev.neg (by omega) (Ev.ret rfl))
    | succ d ih =>
      intro i hi
      refine Ev.step (fun k => by simp only [tollgateref08_SameConfig.l1]; rfl) (Ev.pos (by omega) (Ev.pos (by omega) (Ev.pos (by omega) (Ev.neg (by simp) ?_))))
      rw [step64 (show i < l.length by omega) (by omega)]
      exact ih (i + 1) (by omega)
  have loop0 : ∀ (d i : Nat), i + d = ps.length → Ev (fun k => tollgateref08_SameConfig.l0 k (i : Int) v l ps v l ps) true := by
    intro d
    induction d with
    | zero => intro i hi; exact Ev.step (fun k => by simp only [tollgateref08_SameConfig.l0]; rfl) (Ev.neg (by omega) (loop1 l.length 0 (by omega)))
    | succ d ih =>
      intro i hi
      have h1 : i < ps.length := by omega
      have hm : rd_T67 ps (i : Int) ∈ ps := List.mem_of_mem_drop (i := i) (by rw [rd53_drop h1]; exact List.mem_cons_self)
      refine Ev.step (fun k => by simp only [tollgateref08_SameConfig.l0]; rfl) (Ev.pos (by omega) (Ev.pos (by omega) (Ev.pos (by omega) ?_)))
      refine Ev.pos trivial ?_
      refine Ev.bind (SameTargets_is _ (ht _ hm)) (Ev.pos rfl ?_)
      rw [step64 h1 (by omega)]
      exact ih (i + 1) (by omega)
  refine Ev.pos rfl ?_
  refine Ev.pos rfl ?_
  exact Ev.step (fun k => by simp only [tollgateref08_SameConfig.j0]; rfl) (Ev.neg (by simp) (loop0 ps.length 0 (by omega)))
/-! what the fold finds -/
end Go.Proofs.YtabkdmfnafeaeaaDoor.PP
end
section
namespace Go.Proofs.YtabkdmfnafeaeaaDoor.FL
open Ieee
/-! ### rounding to a power of two -/
def cutE (n d : Nat) : Nat := Toward.even.cut false n d
theorem cut_eq (n d : Nat) : cutE n d = n / 2 ^ min d (n.log2 + 2) + (decide (2 ^ min d (n.log2 + 2) < 2 * (n % 2 ^ min d (n.log2 + 2))) || (2 ^ min d (n.log2 + 2) == 2 * (n % 2 ^ min d (n.log2 + 2)) && n / 2 ^ min d (n.log2 + 2) % 2 == 1)).toNat := by
  unfold cutE Toward.cut
  simp only [Nat.one_shiftLeft]
theorem lt_two_log (n : Nat) : n < 2 ^ (n.log2 + 1) := Nat.lt_log2_self
theorem two_log_le {n : Nat} (h : n ≠ 0) : 2 ^ n.log2 ≤ n := Nat.log2_self_le h
/-- What is cut lies within half a unit. -/
theorem cut_near (n d : Nat) : 2 * (cutE n d * 2 ^ d) ≤ 2 * n + 2 ^ d ∧ 2 * n ≤ 2 * (cutE n d * 2 ^ d) + 2 ^ d := by
  rw [cut_eq]
  by_cases h : d ≤ n.log2 + 2
  · rw [Nat.min_eq_left h]
    generalize hG : 2 ^ d = G
    have hG0 : 0 < G := by rw [← hG]; exact Nat.two_pow_pos _
    have hd := Nat.div_add_mod n G
    have hm := Nat.mod_lt n hG0
    generalize n / G = q at *
    generalize n % G = r at *
    have e : q * G = G * q := Nat.mul_comm _ _
    by_cases c : (decide (G < 2 * r) || (G == 2 * r && q % 2 == 1)) = true
    · rw [c]
      have : G ≤ 2 * r := by
        simp only [Bool.or_eq_true, decide_eq_true_eq, Bool.and_eq_true, beq_iff_eq] at c
        omega
      have e2 : (q + true.toNat) * G = G * q + G := by rw [Nat.add_mul, e]; simp
      omega
    · rw [Bool.not_eq_true] at c
      rw [c]
      have : 2 * r ≤ G := by
        simp only [Bool.or_eq_false_iff, decide_eq_false_iff_not] at c
        omega
      have e2 : (q + false.toNat) * G = G * q := by rw [← e]; simp
      omega
  · rw [Nat.min_eq_right (by omega)]
    have h1 := lt_two_log n
    have h2 : n < 2 ^ (n.log2 + 2) := Nat.lt_trans h1 (Nat.pow_lt_pow_right (by omega) (by omega))
    have h3 : 2 ^ (n.log2 + 2) = 2 * 2 ^ (n.log2 + 1) := by rw [show n.log2 + 2 = (n.log2 + 1) + 1 from rfl, Nat.pow_succ, Nat.mul_comm]
    have h4 : 2 ^ (n.log2 + 2) ≤ 2 ^ d := Nat.pow_le_pow_right (by omega) (by omega)
    rw [Nat.div_eq_of_lt h2, Nat.mod_eq_of_lt h2]
    have c : (decide (2 ^ (n.log2 + 2) < 2 * n) || (2 ^ (n.log2 + 2) == 2 * n && 0 % 2 == 1)) = false := by
      simp only [Bool.or_eq_false_iff, decide_eq_false_iff_not]
      refine ⟨by omega, ?_⟩
      have : (2 ^ (n.log2 + 2) == 2 * n) = false := beq_eq_false_iff_ne.2 (by omega)
      rw [this]
      rfl
    rw [c]
    simp
    omega
theorem cut_mono {n n' : Nat} (h : n ≤ n') (d : Nat) : cutE n d ≤ cutE n' d := by
  rcases Nat.lt_or_ge (cutE n' d) (cutE n d) with hlt | hge
  · exfalso
    obtain ⟨a1, _⟩ := cut_near n d
    obtain ⟨_, b2⟩ := cut_near n' d
    have hm : (cutE n' d + 1) * 2 ^ d ≤ cutE n d * 2 ^ d := Nat.mul_le_mul_right _ hlt
    rw [Nat.add_mul] at hm
    have : n = n' := by omega
    subst this
    omega
  · exact hge
theorem log2_shift {n : Nat} (h : n ≠ 0) (k : Nat) : (n * 2 ^ k).log2 = n.log2 + k := by
  have h1 : n * 2 ^ k ≠ 0 := Nat.mul_ne_zero h (Nat.ne_of_gt (Nat.two_pow_pos _))
  rw [Nat.log2_eq_iff h1]
  constructor
  · rw [Nat.pow_add]; exact Nat.mul_le_mul_right _ (two_log_le h)
  · rw [show n.log2 + k + 1 = (n.log2 + 1) + k by omega, Nat.pow_add]
    exact Nat.mul_lt_mul_of_pos_right (lt_two_log n) (Nat.two_pow_pos _)
theorem cut_scale (n d m : Nat) : cutE (n * 2 ^ m) (d + m) = cutE n d := by
  by_cases hn : n = 0
  · subst hn
    rw [Nat.zero_mul, cut_eq, cut_eq]
    simp
  · rw [cut_eq, cut_eq, log2_shift hn]
    rw [show min (d + m) (n.log2 + m + 2) = min d (n.log2 + 2) + m by omega, Nat.pow_add]
    have hp : 0 < 2 ^ m := Nat.two_pow_pos _
    generalize 2 ^ min d (n.log2 + 2) = G
    rw [Nat.mul_div_mul_right _ _ hp, Nat.mul_mod_mul_right]
    have e : 2 * (n % G * 2 ^ m) = (2 * (n % G)) * 2 ^ m := (Nat.mul_assoc _ _ _).symm
    rw [e]
    have c1 : decide (G * 2 ^ m < 2 * (n % G) * 2 ^ m) = decide (G < 2 * (n % G)) := by
      rw [decide_eq_decide]
      exact ⟨fun h => Nat.lt_of_mul_lt_mul_right h, fun h => Nat.mul_lt_mul_of_pos_right h hp⟩
    have c2 : (G * 2 ^ m == 2 * (n % G) * 2 ^ m) = (G == 2 * (n % G)) := by
      rw [Bool.eq_iff_iff, beq_iff_eq, beq_iff_eq]
      exact ⟨fun h => Nat.eq_of_mul_eq_mul_right hp h, fun h => congrArg (· * 2 ^ m) h⟩
    rw [c1, c2]
theorem cut_same {a d a' d' : Nat} (h : a * 2 ^ d' = a' * 2 ^ d) : cutE a d = cutE a' d' := by
  rw [← cut_scale a d d', ← cut_scale a' d' d, h, Nat.add_comm]
theorem cut_zero (n : Nat) : cutE n 0 = n := by
  have := cut_near n 0
  omega
/-! ### doubles -/
def least : Int := -1074
def INF : Nat := 9218868437227405312
def near (n : Nat) (p : Int) : Nat := Ieee.double.nearest false n p
theorem near_zero (p : Int) : near 0 p = 0 := by
  unfold near Format.nearest Format.word
  simp
theorem near_eq {n : Nat} (hn : n ≠ 0) (p : Int) : near n p = min ((max (p + n.log2 - 52) (-1074) - -1074).toNat * 4503599627370496 + cutE (n * 2 ^ (p - max (p + n.log2 - 52) (-1074)).toNat) (max (p + n.log2 - 52) (-1074) - p).toNat) 9218868437227405312 := by
  have hB : Ieee.double.binade = 4503599627370496 := by decide
  have hI : Ieee.double.infRung = 9218868437227405312 := by decide
  have hL : Ieee.double.leastPlace = -1074 := by decide
  have hF : Ieee.double.fractionBits = 52 := rfl
  unfold near Format.nearest Format.word cutE
  rw [if_neg hn]
  simp only [Nat.shiftLeft_eq, hB, hI, hL, hF, Bool.false_eq_true, if_false]
  rfl
theorem near_scale (n k : Nat) (p : Int) : near (n * 2 ^ k) (p - k) = near n p := by
  by_cases hn : n = 0
  · subst hn; rw [Nat.zero_mul, near_zero, near_zero]
  · have h1 : n * 2 ^ k ≠ 0 := Nat.mul_ne_zero hn (Nat.ne_of_gt (Nat.two_pow_pos _))
    rw [near_eq h1, near_eq hn, log2_shift hn]
    have e : p - (k : Int) + ((n.log2 + k : Nat) : Int) - 52 = p + n.log2 - 52 := by omega
    rw [e]
    generalize max (p + (n.log2 : Int) - 52) (-1074) = L
    congr 2
    refine cut_same ?_
    rw [Nat.mul_assoc, Nat.mul_assoc, Nat.mul_assoc, ← Nat.pow_add, ← Nat.pow_add, ← Nat.pow_add]
    congr 2
    omega
/-- At the least place: what a whole number of least units is rounded to. -/
def rnd (n : Nat) : Nat := near n (-1074)
theorem near_low (n j : Nat) {p : Int} (hp : p = -1074 + j) : near n p = rnd (n * 2 ^ j) := by
  unfold rnd
  rw [← near_scale n j p, hp]
  congr 1
  omega
/-- Below the least place. -/
theorem near_D {n : Nat} (hn : n ≠ 0) (d0 : Nat) : near n (-1074 - d0) = min ((max (n.log2 - 52) d0 - d0) * 4503599627370496 + cutE n (max (n.log2 - 52) d0)) 9218868437227405312 := by
  rw [near_eq hn]
  have e1 : max (-1074 - (d0 : Int) + (n.log2 : Int) - 52) (-1074) = -1074 - (d0 : Int) + ((max (n.log2 - 52) d0 : Nat) : Int) := by omega
  rw [e1]
  generalize hD : max (n.log2 - 52) d0 = D
  have hd : d0 ≤ D := by omega
  have e2 : (-1074 - (d0 : Int) - (-1074 - (d0 : Int) + (D : Int))).toNat = 0 := by omega
  have e3 : (-1074 - (d0 : Int) + (D : Int) - (-1074 - (d0 : Int))).toNat = D := by omega
  have e4 : (-1074 - (d0 : Int) + (D : Int) - -1074).toNat = D - d0 := by omega
  rw [e2, e3, e4, Nat.pow_zero, Nat.mul_one]
theorem near_mono {n n' : Nat} (h : n ≤ n') (d0 : Nat) : near n (-1074 - d0) ≤ near n' (-1074 - d0) := by
  by_cases hn : n = 0
  · subst hn; rw [near_zero]; exact Nat.zero_le _
  · have hn' : n' ≠ 0 := by omega
    rw [near_D hn, near_D hn']
    have hl : n.log2 ≤ n'.log2 := by
      rw [Nat.le_log2 hn']
      exact Nat.le_trans (two_log_le hn) h
    have hD : max (n.log2 - 52) d0 ≤ max (n'.log2 - 52) d0 := by omega
    have hd0 : d0 ≤ max (n.log2 - 52) d0 := by omega
    have hL : n.log2 ≤ max (n.log2 - 52) d0 + 52 := by omega
    have hL' : max (n.log2 - 52) d0 < max (n'.log2 - 52) d0 → n'.log2 = max (n'.log2 - 52) d0 + 52 := by omega
    generalize max (n.log2 - 52) d0 = D at *
    generalize max (n'.log2 - 52) d0 = D' at *
    suffices hs : (D - d0) * 4503599627370496 + cutE n D ≤ (D' - d0) * 4503599627370496 + cutE n' D' from Nat.le_min.2 ⟨Nat.le_trans (Nat.min_le_left _ _) hs, Nat.min_le_right _ _⟩
    rcases Nat.eq_or_lt_of_le hD with e | hlt
    · subst e
      have := cut_mono h D
      omega
    · have q1 : cutE n D ≤ 9007199254740992 := by
        obtain ⟨a1, _⟩ := cut_near n D
        have h1 := lt_two_log n
        have h2 : 2 ^ (n.log2 + 1) ≤ 2 ^ (D + 53) := Nat.pow_le_pow_right (by omega) (by omega)
        have h3 : (2 : Nat) ^ (D + 53) = 2 ^ D * 9007199254740992 := Nat.pow_add 2 D 53
        rw [h3] at h2
        have h1 := Nat.lt_of_lt_of_le h1 h2
        clear h2 h3
        have hG : 0 < 2 ^ D := Nat.two_pow_pos _
        generalize 2 ^ D = G at *
        rcases Nat.lt_or_ge 9007199254740992 (cutE n D) with hq | hq
        · exfalso
          have : (9007199254740992 + 1) * G ≤ cutE n D * G := Nat.mul_le_mul_right _ hq
          have e : (9007199254740992 + 1) * G = G * 9007199254740992 + G := by omega
          omega
        · exact hq
      have q2 : 4503599627370496 ≤ cutE n' D' := by
        obtain ⟨_, b2⟩ := cut_near n' D'
        have h1 := two_log_le hn'
        have h3 : (2 : Nat) ^ (D' + 52) = 2 ^ D' * 4503599627370496 := Nat.pow_add 2 D' 52
        rw [hL' hlt, h3] at h1
        clear h3
        have hG : 0 < 2 ^ D' := Nat.two_pow_pos _
        generalize 2 ^ D' = G at *
        rcases Nat.lt_or_ge (cutE n' D') 4503599627370496 with hq | hq
        · exfalso
          have : (cutE n' D' + 1) * G ≤ 4503599627370496 * G := Nat.mul_le_mul_right _ hq
          rw [Nat.add_mul] at this
          have e : 4503599627370496 * G = G * 4503599627370496 := Nat.mul_comm _ _
          omega
        · exact hq
      omega
theorem near_le (n : Nat) (p : Int) : near n p ≤ INF := by
  by_cases hn : n = 0
  · subst hn; rw [near_zero]; exact Nat.zero_le _
  · rw [near_eq hn]; exact Nat.min_le_right _ _
theorem rnd_mono {n n' : Nat} (h : n ≤ n') : rnd n ≤ rnd n' := by
  have := near_mono h 0
  exact this
theorem rnd_le (n : Nat) : rnd n ≤ INF := near_le _ _
/-- A finite double that is not negative, in least units. -/
def val (b : Nat) : Nat := if b < 4503599627370496 then b else (4503599627370496 + b % 4503599627370496) * 2 ^ (b / 4503599627370496 - 1)
theorem log_norm {m : Nat} (h1 : 4503599627370496 ≤ m) (h2 : m < 9007199254740992) : m.log2 = 52 := by
  rw [Nat.log2_eq_iff (by omega)]
  exact ⟨h1, h2⟩
theorem rnd_val {b : Nat} (h : b < INF) : rnd (val b) = b := by
  unfold INF at h
  unfold val
  split
  · rename_i hb
    by_cases h0 : b = 0
    · subst h0; exact near_zero _
    · show near b (-1074 - ((0 : Nat) : Int)) = b
      rw [near_D h0]
      have hl : b.log2 ≤ 52 := by
        have : b.log2 < 52 := by
          rw [Nat.log2_lt h0]
          exact hb
        omega
      have : max (b.log2 - 52) 0 = 0 := by omega
      rw [this, cut_zero]
      omega
  · rename_i hb
    have hm := Nat.mod_lt b (show 0 < 4503599627370496 by decide)
    have hd := Nat.div_add_mod b 4503599627370496
    generalize b / 4503599627370496 = q at *
    generalize b % 4503599627370496 = r at *
    rw [← near_low (4503599627370496 + r) (q - 1) rfl, near_eq (by omega), log_norm (by omega) (by omega)]
    have e1 : max (-1074 + ((q - 1 : Nat) : Int) + ((52 : Nat) : Int) - 52) (-1074) = -1074 + ((q - 1 : Nat) : Int) := by omega
    rw [e1]
    have e2 : (-1074 + ((q - 1 : Nat) : Int) - (-1074 + ((q - 1 : Nat) : Int))).toNat = 0 := by omega
    have e3 : (-1074 + ((q - 1 : Nat) : Int) - -1074).toNat = q - 1 := by omega
    rw [e2, e3, Nat.pow_zero, Nat.mul_one, cut_zero]
    omega
theorem val_lt {a b : Nat} (ha : a < INF) (h : val a < val b) (hb : b < INF) : a < b := by
  have h1 := rnd_mono (Nat.le_of_lt h)
  rw [rnd_val ha, rnd_val hb] at h1
  rcases Nat.eq_or_lt_of_le h1 with e | hlt
  · subst e; omega
  · exact hlt
theorem val_inj {a b : Nat} (ha : a < INF) (hb : b < INF) (h : val a = val b) : a = b := by
  rw [← rnd_val ha, ← rnd_val hb, h]
theorem val_mono {a b : Nat} (ha : a < INF) (hb : b < INF) (h : a ≤ b) : val a ≤ val b := by
  rcases Nat.lt_or_ge (val b) (val a) with hlt | hge
  · have := val_lt hb hlt ha; omega
  · exact hge
theorem val_lt_iff {a b : Nat} (ha : a < INF) (hb : b < INF) : val a < val b ↔ a < b := by
  constructor
  · intro h; exact val_lt ha h hb
  · intro h
    have := val_mono ha hb (Nat.le_of_lt h)
    rcases Nat.eq_or_lt_of_le this with e | hlt
    · have := val_inj ha hb e; omega
    · exact hlt
theorem val_zero : val 0 = 0 := rfl
/-! ### how a double reads -/
theorem read_fin {b : Nat} (h : b < INF) : ∃ (m j : Nat), Ieee.double.read b = .number false m (-1074 + j) ∧ val b = m * 2 ^ j := by
  unfold INF at h
  have hs : Ieee.double.signWeight = 9223372036854775808 := rfl
  have hB : Ieee.double.binade = 4503599627370496 := rfl
  have hI : Ieee.double.infRung = 9218868437227405312 := rfl
  have hL : Ieee.double.leastPlace = -1074 := rfl
  unfold Format.read
  simp only [hs, hB, hI, hL]
  have e1 : b / 9223372036854775808 = 0 := Nat.div_eq_of_lt (by omega)
  have e2 : b % 9223372036854775808 = b := Nat.mod_eq_of_lt (by omega)
  rw [e1, e2]
  by_cases hb : b < 4503599627370496
  · rw [if_pos hb]
    exact ⟨b, 0, rfl, by unfold val; rw [if_pos hb]; simp⟩
  · rw [if_neg hb, if_pos h]
    exact ⟨_, _, rfl, by unfold val; rw [if_neg hb]⟩
theorem read_inf : Ieee.double.read INF = .infinity false := rfl
theorem read_neg0 : Ieee.double.read 9223372036854775808 = .number true 0 (-1074) := rfl
theorem signed_false (m u : Nat) : signed false m u = ((m * 2 ^ u : Nat) : Int) := by
  unfold signed
  simp [Nat.shiftLeft_eq]
/-- Two finite ones at their lower place. -/
theorem at_base (m i : Nat) (base : Int) (hb : base ≤ -1074 + i) (h0 : -1074 ≤ base) : m * 2 ^ i = (m * 2 ^ ((-1074 + (i : Int)) - base).toNat) * 2 ^ (base + 1074).toNat := by
  rw [Nat.mul_assoc, ← Nat.pow_add]
  congr 2
  omega
theorem order_fin {a b : Nat} (ha : a < INF) (hb : b < INF) : Ieee.double.order a b = some (compare a b) := by
  obtain ⟨m, i, hra, hva⟩ := read_fin ha
  obtain ⟨n, j, hrb, hvb⟩ := read_fin hb
  unfold Format.order
  rw [hra, hrb]
  simp only [Datum.order, signed_false]
  have hbase : min (-1074 + (i : Int)) (-1074 + (j : Int)) ≤ -1074 + i ∧ min (-1074 + (i : Int)) (-1074 + (j : Int)) ≤ -1074 + j ∧ -1074 ≤ min (-1074 + (i : Int)) (-1074 + (j : Int)) := by omega
  generalize min (-1074 + (i : Int)) (-1074 + (j : Int)) = base at *
  have e1 := at_base m i base hbase.1 hbase.2.2
  have e2 := at_base n j base hbase.2.1 hbase.2.2
  rw [← hva] at e1
  rw [← hvb] at e2
  generalize m * 2 ^ ((-1074 + (i : Int)) - base).toNat = x at *
  generalize n * 2 ^ ((-1074 + (j : Int)) - base).toNat = y at *
  have hp : 0 < 2 ^ (base + 1074).toNat := Nat.two_pow_pos _
  generalize 2 ^ (base + 1074).toNat = p at *
  have hlt : a < b ↔ x < y := by
    rw [← val_lt_iff ha hb, e1, e2]
    exact ⟨fun h => Nat.lt_of_mul_lt_mul_right h, fun h => Nat.mul_lt_mul_of_pos_right h hp⟩
  have hgt : b < a ↔ y < x := by
    rw [← val_lt_iff hb ha, e1, e2]
    exact ⟨fun h => Nat.lt_of_mul_lt_mul_right h, fun h => Nat.mul_lt_mul_of_pos_right h hp⟩
  congr 1
  rcases Nat.lt_trichotomy a b with h | h | h
  · rw [Nat.compare_eq_lt.2 h, Int.compare_eq_lt.2 (by have := hlt.1 h; omega)]
  · have : x = y := by omega
    rw [Nat.compare_eq_eq.2 h, Int.compare_eq_eq.2 (by omega)]
  · rw [Nat.compare_eq_gt.2 h, Int.compare_eq_gt.2 (by have := hgt.1 h; omega)]
theorem order_nn {a b : Nat} (ha : a ≤ INF) (hb : b ≤ INF) : Ieee.double.order a b = some (compare a b) := by
  by_cases h1 : a < INF
  · by_cases h2 : b < INF
    · exact order_fin h1 h2
    · obtain rfl : b = INF := by omega
      obtain ⟨m, i, hra, _⟩ := read_fin h1
      unfold Format.order
      rw [hra, read_inf, Nat.compare_eq_lt.2 h1]
      rfl
  · obtain rfl : a = INF := by omega
    by_cases h2 : b < INF
    · obtain ⟨m, i, hra, _⟩ := read_fin h2
      unfold Format.order
      rw [hra, read_inf, Nat.compare_eq_gt.2 h2]
      rfl
    · obtain rfl : b = INF := by omega
      rw [Nat.compare_eq_eq.2 rfl]
      rfl
theorem add_fin {a b : Nat} (ha : a < INF) (hb : b < INF) : Ieee.double.add a b = some (rnd (val a + val b)) := by
  obtain ⟨m, i, hra, hva⟩ := read_fin ha
  obtain ⟨n, j, hrb, hvb⟩ := read_fin hb
  unfold Format.add
  rw [hra, hrb]
  simp only [Datum.sum, signed_false, Option.map_some]
  have hbase : min (-1074 + (i : Int)) (-1074 + (j : Int)) ≤ -1074 + i ∧ min (-1074 + (i : Int)) (-1074 + (j : Int)) ≤ -1074 + j ∧ -1074 ≤ min (-1074 + (i : Int)) (-1074 + (j : Int)) := by omega
  generalize min (-1074 + (i : Int)) (-1074 + (j : Int)) = base at *
  have e1 := at_base m i base hbase.1 hbase.2.2
  have e2 := at_base n j base hbase.2.1 hbase.2.2
  rw [← hva] at e1
  rw [← hvb] at e2
  generalize m * 2 ^ ((-1074 + (i : Int)) - base).toNat = x at *
  generalize n * 2 ^ ((-1074 + (j : Int)) - base).toNat = y at *
  have hs : (if (x : Int) + (y : Int) = 0 then (false && false) else decide ((x : Int) + (y : Int) < 0)) = false := by
    split
    · rfl
    · exact decide_eq_false (by omega)
  have hn : ((x : Int) + (y : Int)).natAbs = x + y := by omega
  rw [hs, hn]
  congr 1
  show near (x + y) base = _
  rw [near_low (x + y) (base + 1074).toNat (by omega), e1, e2, Nat.add_mul]
theorem add_inf_l {b : Nat} (hb : b ≤ INF) : Ieee.double.add INF b = some INF := by
  by_cases h : b < INF
  · obtain ⟨m, i, hra, _⟩ := read_fin h
    unfold Format.add
    rw [hra, read_inf]
    rfl
  · obtain rfl : b = INF := by omega
    rfl
theorem add_inf_r {a : Nat} (ha : a ≤ INF) : Ieee.double.add a INF = some INF := by
  by_cases h : a < INF
  · obtain ⟨m, i, hra, _⟩ := read_fin h
    unfold Format.add
    rw [hra, read_inf]
    rfl
  · obtain rfl : a = INF := by omega
    rfl
/-- A product's rounding. -/
def rnd2 (n : Nat) : Nat := near n (-2148)
theorem rnd2_mono {n n' : Nat} (h : n ≤ n') : rnd2 n ≤ rnd2 n' := near_mono h 1074
theorem mul_fin {a b : Nat} (ha : a < INF) (hb : b < INF) : Ieee.double.mul a b = some (rnd2 (val a * val b)) := by
  obtain ⟨m, i, hra, hva⟩ := read_fin ha
  obtain ⟨n, j, hrb, hvb⟩ := read_fin hb
  unfold Format.mul
  rw [hra, hrb]
  simp only [Datum.product, Option.map_some]
  congr 1
  show near (m * n) (-1074 + (i : Int) + (-1074 + (j : Int))) = _
  unfold rnd2
  rw [← near_scale (m * n) (i + j), hva, hvb]
  congr 1
  · rw [Nat.pow_add]; ac_rfl
  · omega
theorem mul_inf_l {b : Nat} (hb : b < INF) (h0 : 0 < b) : Ieee.double.mul INF b = some INF := by
  obtain ⟨m, i, hra, hva⟩ := read_fin hb
  have hm : m ≠ 0 := by
    intro h
    subst h
    rw [Nat.zero_mul] at hva
    have := val_inj hb (show 0 < INF by decide) hva
    omega
  unfold Format.mul
  rw [hra, read_inf]
  simp only [Datum.product, hm, if_false]
  rfl
theorem mul_neg0 {b : Nat} (hb : b < INF) : Ieee.double.mul 9223372036854775808 b = some 9223372036854775808 := by
  obtain ⟨m, i, hra, hva⟩ := read_fin hb
  unfold Format.mul
  rw [hra, read_neg0]
  simp only [Datum.product, Nat.zero_mul]
  rfl
theorem order_neg0 {b : Nat} (hb : b ≤ INF) : Ieee.double.order 9223372036854775808 b = Ieee.double.order 0 b := by
  by_cases h : b < INF
  · obtain ⟨m, i, hra, _⟩ := read_fin h
    unfold Format.order
    rw [hra, read_neg0, show Ieee.double.read 0 = .number false 0 (-1074) from rfl]
    simp only [Datum.order, signed]
    simp
  · obtain rfl : b = INF := by omega
    rfl
end Go.Proofs.YtabkdmfnafeaeaaDoor.FL
end
