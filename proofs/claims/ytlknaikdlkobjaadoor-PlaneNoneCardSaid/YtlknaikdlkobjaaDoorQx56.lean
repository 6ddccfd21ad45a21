-- Laid by lay.py, a program of this session's, out of the translation (the kit's printer with additions of ours). Lean checks it.
import Derived.Test.YtlknaikdlkobjaaDoorQx0
import Derived.Test.YtlknaikdlkobjaaDoorQx2
import Derived.Test.YtlknaikdlkobjaaDoorQx55
namespace Go.Proofs.YtlknaikdlkobjaaDoor.Q
open Go.RowKit Go.Proofs.YtlknaikdlkobjaaDoorW.PrintWords Go.Proofs.YtlknaikdlkobjaaDoorW.PrintLast Go.Proofs.YtlknaikdlkobjaaDoorW.PrintMore
attribute [local go_sem] max2_int min2_int max_two min_two max_three min_three max_four min_four   -- for this text's walks alone
attribute [local go_sem] fbin_eql fbin_neq fbin_lss fbin_leq fbin_gtr fbin_geq frun_add frun_sub frun_mul frun_quo frun_store fun_neg fcv_int fcv_same fb94 fb118
set_option linter.unusedVariables false
set_option linter.unusedSimpArgs false

attribute [local go_sem high] eqA95
/-! ### tollgateref08_SameConfig: function 34 -/
mutual
def tollgateref08_SameConfig.j0 : Nat → Bool → Int → List (S95) → List (S69) → Int → List (S95) → List (S69) → Option (Bool)
  | 0, _, _, _, _, _, _, _ => none
  | k + 1, x29, x530000, x530001, x530002, x531000, x531001, x531002 => if x29 = true then (some false) else (tollgateref08_SameConfig.l0 k 0 x530000 x530001 x530002 x531000 x531001 x531002)
def tollgateref08_SameConfig.l0 : Nat → Int → Int → List (S95) → List (S69) → Int → List (S95) → List (S69) → Option (Bool)
  | 0, _, _, _, _, _, _, _ => none
  | k + 1, x5, x530000, x530001, x530002, x531000, x531001, x531002 => if x5 < (x530002.length : Int) then (if 0 ≤ x5 then (if x5 < (x531002.length : Int) then (if ((rd_T69 x530002 x5).f0).toList = ((rd_T69 x531002 x5).f0).toList then ((tollgateref08_SameTargets.f k ((rd_T69 x530002 x5).f1) ((rd_T69 x531002 x5).f1)).bind fun t535 => (if t535 = true then (tollgateref08_SameConfig.l0 k (wrap64 (x5 + 1)) x530000 x530001 x530002 x531000 x531001 x531002) else (some false))) else (some false)) else (none)) else (none)) else (tollgateref08_SameConfig.l1 k 0 x530000 x530001 x530002 x531000 x531001 x531002)
def tollgateref08_SameConfig.l1 : Nat → Int → Int → List (S95) → List (S69) → Int → List (S95) → List (S69) → Option (Bool)
  | 0, _, _, _, _, _, _, _ => none
  | k + 1, x6, x530000, x530001, x530002, x531000, x531001, x531002 => if x6 < (x530001.length : Int) then (if 0 ≤ x6 then (if x6 < (x531001.length : Int) then (if (!((((rd_T95 x530001 x6).f0).toList) == (((rd_T95 x531001 x6).f0).toList)) || (!((((rd_T95 x530001 x6).f1).toList) == (((rd_T95 x531001 x6).f1).toList)) || (!((((rd_T95 x530001 x6).f2).toList) == (((rd_T95 x531001 x6).f2).toList))))) = true then (some false) else (tollgateref08_SameConfig.l1 k (wrap64 (x6 + 1)) x530000 x530001 x530002 x531000 x531001 x531002)) else (none)) else (none)) else (some true)
end
def tollgateref08_SameConfig.f (k : Nat) (a0_0 : Int) (l0_1 : List (S95)) (l0_2 : List (S69)) (a1_0 : Int) (l1_1 : List (S95)) (l1_2 : List (S69)) : Option (Bool) := if a0_0 = a1_0 then (if (l0_2.length : Int) = (l1_2.length : Int) then (tollgateref08_SameConfig.j0 k ((l0_1.length : Int) != (l1_1.length : Int)) a0_0 l0_1 l0_2 a1_0 l1_1 l1_2) else (tollgateref08_SameConfig.j0 k true a0_0 l0_1 l0_2 a1_0 l1_1 l1_2)) else (tollgateref08_SameConfig.j0 k true a0_0 l0_1 l0_2 a1_0 l1_1 l1_2)
theorem tollgateref08_SameConfig.mono_l : ∀ k, (∀ y0 y1 y2 y3 y4 y5 y6, LeO (tollgateref08_SameConfig.j0 k y0 y1 y2 y3 y4 y5 y6) (tollgateref08_SameConfig.j0 (k + 1) y0 y1 y2 y3 y4 y5 y6)) ∧ (∀ y0 y1 y2 y3 y4 y5 y6, LeO (tollgateref08_SameConfig.l0 k y0 y1 y2 y3 y4 y5 y6) (tollgateref08_SameConfig.l0 (k + 1) y0 y1 y2 y3 y4 y5 y6)) ∧ (∀ y0 y1 y2 y3 y4 y5 y6, LeO (tollgateref08_SameConfig.l1 k y0 y1 y2 y3 y4 y5 y6) (tollgateref08_SameConfig.l1 (k + 1) y0 y1 y2 y3 y4 y5 y6))
  | 0 => ⟨fun _ _ _ _ _ _ _ r h => by simp [tollgateref08_SameConfig.j0] at h, fun _ _ _ _ _ _ _ r h => by simp [tollgateref08_SameConfig.l0] at h, fun _ _ _ _ _ _ _ r h => by simp [tollgateref08_SameConfig.l1] at h⟩
  | k + 1 => by
    obtain ⟨ih0, ih1, ih2⟩ := tollgateref08_SameConfig.mono_l k
    refine ⟨?_, ?_, ?_⟩
    · intro y0 y1 y2 y3 y4 y5 y6
      unfold tollgateref08_SameConfig.j0
      repeat' first
      | (with_reducible exact ih0 _ _ _ _ _ _ _)
      | (with_reducible exact ih1 _ _ _ _ _ _ _)
      | (with_reducible exact ih2 _ _ _ _ _ _ _)
      | (with_reducible exact tollgateref08_SameTargets.mono _ _ _)
      | (with_reducible exact LeO.refl _)
      | (with_reducible exact LeO.none _)
      | (with_reducible refine LeO.ite ?_ ?_)
      | (with_reducible refine LeO.bind ?_ (fun _ => ?_))
      | exact ih0 _ _ _ _ _ _ _
      | exact ih1 _ _ _ _ _ _ _
      | exact ih2 _ _ _ _ _ _ _
      | exact tollgateref08_SameTargets.mono _ _ _
      | exact LeO.none _
      | refine LeO.ite ?_ ?_
      | refine LeO.bind ?_ (fun _ => ?_)
    · intro y0 y1 y2 y3 y4 y5 y6
      unfold tollgateref08_SameConfig.l0
      repeat' first
      | (with_reducible exact ih0 _ _ _ _ _ _ _)
      | (with_reducible exact ih1 _ _ _ _ _ _ _)
      | (with_reducible exact ih2 _ _ _ _ _ _ _)
      | (with_reducible exact tollgateref08_SameTargets.mono _ _ _)
      | (with_reducible exact LeO.refl _)
      | (with_reducible exact LeO.none _)
      | (with_reducible refine LeO.ite ?_ ?_)
      | (with_reducible refine LeO.bind ?_ (fun _ => ?_))
      | exact ih0 _ _ _ _ _ _ _
      | exact ih1 _ _ _ _ _ _ _
      | exact ih2 _ _ _ _ _ _ _
      | exact tollgateref08_SameTargets.mono _ _ _
      | exact LeO.none _
      | refine LeO.ite ?_ ?_
      | refine LeO.bind ?_ (fun _ => ?_)
    · intro y0 y1 y2 y3 y4 y5 y6
      unfold tollgateref08_SameConfig.l1
      repeat' first
      | (with_reducible exact ih0 _ _ _ _ _ _ _)
      | (with_reducible exact ih1 _ _ _ _ _ _ _)
      | (with_reducible exact ih2 _ _ _ _ _ _ _)
      | (with_reducible exact tollgateref08_SameTargets.mono _ _ _)
      | (with_reducible exact LeO.refl _)
      | (with_reducible exact LeO.none _)
      | (with_reducible refine LeO.ite ?_ ?_)
      | (with_reducible refine LeO.bind ?_ (fun _ => ?_))
      | exact ih0 _ _ _ _ _ _ _
      | exact ih1 _ _ _ _ _ _ _
      | exact ih2 _ _ _ _ _ _ _
      | exact tollgateref08_SameTargets.mono _ _ _
      | exact LeO.none _
      | refine LeO.ite ?_ ?_
      | refine LeO.bind ?_ (fun _ => ?_)
theorem tollgateref08_SameConfig.mono : ∀ a0 a1 a2 a3 a4 a5 k, LeO (tollgateref08_SameConfig.f k a0 a1 a2 a3 a4 a5) (tollgateref08_SameConfig.f (k + 1) a0 a1 a2 a3 a4 a5) := by
  intro a0 a1 a2 a3 a4 a5 k
  obtain ⟨ih0, ih1, ih2⟩ := tollgateref08_SameConfig.mono_l k
  unfold tollgateref08_SameConfig.f
  repeat' first
      | (with_reducible exact ih0 _ _ _ _ _ _ _)
      | (with_reducible exact ih1 _ _ _ _ _ _ _)
      | (with_reducible exact ih2 _ _ _ _ _ _ _)
      | (with_reducible exact tollgateref08_SameTargets.mono _ _ _)
      | (with_reducible exact LeO.refl _)
      | (with_reducible exact LeO.none _)
      | (with_reducible refine LeO.ite ?_ ?_)
      | (with_reducible refine LeO.bind ?_ (fun _ => ?_))
      | exact ih0 _ _ _ _ _ _ _
      | exact ih1 _ _ _ _ _ _ _
      | exact ih2 _ _ _ _ _ _ _
      | exact tollgateref08_SameTargets.mono _ _ _
      | exact LeO.none _
      | refine LeO.ite ?_ ?_
      | refine LeO.bind ?_ (fun _ => ?_)
set_option maxHeartbeats 8000000 in
set_option maxRecDepth 100000 in
theorem tollgateref08_SameConfig.calls (k : Nat) (a0_0 : Int) (A0_1 : Option Addr) (c0_1 : Nat) (l0_1 : List (S95)) (A0_2 : Option Addr) (c0_2 : Nat) (l0_2 : List (S69)) (a1_0 : Int) (A1_1 : Option Addr) (c1_1 : Nat) (l1_1 : List (S95)) (A1_2 : Option Addr) (c1_2 : Nat) (l1_2 : List (S69)) (r : Bool) (w : World) (hr0_1 : Kd.C k95 w A0_1 l0_1.length l0_1) (hc0_1 : l0_1.length ≤ c0_1) (hr0_2 : Kd.C k69 w A0_2 l0_2.length l0_2) (hc0_2 : l0_2.length ≤ c0_2) (hr1_1 : Kd.C k95 w A1_1 l1_1.length l1_1) (hc1_1 : l1_1.length ≤ c1_1) (hr1_2 : Kd.C k69 w A1_2 l1_2.length l1_2) (hc1_2 : l1_2.length ≤ c1_2) (h : tollgateref08_SameConfig.f k a0_0 l0_1 l0_2 a1_0 l1_1 l1_2 = some r) :
    Calls Tryd.prog 34 #[.agg #[.int .i64 a0_0, .slice A0_1 l0_1.length c0_1, .slice A0_2 l0_2.length c0_2], .agg #[.int .i64 a1_0, .slice A1_1 l1_1.length c1_1, .slice A1_2 l1_2.length c1_2]] w fun e w' => e = .returned (.bool r) ∧ Below w.heap.size w w' := by
  have hu57 := Tryd.underlying57
  have hu95 := Tryd.underlying95
  have HR0_1 := Aside0.mk hr0_1
  have HC0_1 := Aside0.mk hc0_1
  clear hr0_1 hc0_1
  have HR0_2 := Aside0.mk hr0_2
  have HC0_2 := Aside0.mk hc0_2
  clear hr0_2 hc0_2
  have HR1_1 := Aside0.mk hr1_1
  have HC1_1 := Aside0.mk hc1_1
  clear hr1_1 hc1_1
  have HR1_2 := Aside0.mk hr1_2
  have HC1_2 := Aside0.mk hc1_2
  clear hr1_2 hc1_2
  have HB := Aside0.mk (Below.refl w.heap.size w)
  have H : (if a0_0 = a1_0 then (if (l0_2.length : Int) = (l1_2.length : Int) then (tollgateref08_SameConfig.j0 k ((l0_1.length : Int) != (l1_1.length : Int)) a0_0 l0_1 l0_2 a1_0 l1_1 l1_2) else (tollgateref08_SameConfig.j0 k true a0_0 l0_1 l0_2 a1_0 l1_1 l1_2)) else (tollgateref08_SameConfig.j0 k true a0_0 l0_1 l0_2 a1_0 l1_1 l1_2)) = some r := h
  clear h
  have HC3 := Aside0.mk H
  clear H
  go_enter Tryd.func34, Tryd.ntmps34
  go_upto_region 1 with (first | ((with_reducible refine gate_dst (N := 2) rfl ?_); (try (refine gate_guard (by rfl) ?_; dsimp only)); refine box_event ?hg (N := 2) ?hd (cs := #[.int .i64 a0_0, .slice A0_1 l0_1.length c0_1, .slice A0_2 l0_2.length c0_2]) (t := 57) ?hr ?_; (case hd => rfl); (case hg => rfl); (case hr => first | (go_simp; done) | (go_simp; rfl)); intro gb529 hg w4 hbox hb; have n0_ := Aside0.mk (below_step (by repeat (first | (with_reducible first | exact HB.out | apply below_alloc | apply pw_below_drewN | apply below_drew1) | exact HB.out)) hb); have n1_ := Aside0.mk (hbox); have n2_ := Aside0.mk ((by rw [hg]; exact (below_size (by repeat (first | (with_reducible first | exact HB.out | apply below_alloc | apply pw_below_drewN | apply below_drew1) | exact HB.out))) : w.heap.size ≤ gb529)); have n3_ := Aside0.mk ((by rw [hg]; exact (below_size (by repeat (first | (with_reducible first | exact HB.out | apply below_alloc | apply pw_below_drewN | apply below_drew1) | exact HB.out))) : w.heap.size ≤ gb529)); clear HB; have HB := n0_; have BK529 := n1_; have GW529 := n2_; have GE529 := n3_; clear n0_ n1_ n2_ n3_; clear hb hbox hg) | ((with_reducible refine gate_dst (N := 3) rfl ?_); (try (refine gate_guard (by rfl) ?_; dsimp only)); refine box_event ?hg (N := 3) ?hd (cs := #[.int .i64 a1_0, .slice A1_1 l1_1.length c1_1, .slice A1_2 l1_2.length c1_2]) (t := 57) ?hr ?_; (case hd => rfl); (case hg => rfl); (case hr => first | (go_simp; done) | (go_simp; rfl)); intro gb530 hg w5 hbox hb; have n0_ := Aside0.mk (blk_below (g := gb529) (o := .cells #[.int .i64 a0_0, .slice A0_1 l0_1.length c0_1, .slice A0_2 l0_2.length c0_2] 57 (0, 0)) (by (with_reducible repeat (first | refine blk_drewN ?_ _ | refine blk_drew ?_ | refine blk_alloc ?_ _)); exact BK529.out) hb); have n1_ := Aside0.mk (below_step (by repeat (first | (with_reducible first | exact HB.out | apply below_alloc | apply pw_below_drewN | apply below_drew1 | refine below_set ?_ GE529.out) | exact HB.out)) hb); have n2_ := Aside0.mk (hbox); have n3_ := Aside0.mk ((by rw [hg]; exact (below_size (by repeat (first | (with_reducible first | exact HB.out | apply below_alloc | apply pw_below_drewN | apply below_drew1 | refine below_set ?_ GE529.out) | exact HB.out))) : w.heap.size ≤ gb530)); have n4_ := Aside0.mk ((by rw [hg]; exact (below_size (by repeat (first | (with_reducible first | exact HB.out | apply below_alloc | apply pw_below_drewN | apply below_drew1 | refine below_set ?_ GE529.out) | exact HB.out))) : w.heap.size ≤ gb530)); have n5_ := Aside0.mk ((by rw [hg]; exact Nat.ne_of_lt (blk_lt (g := gb529) (o := .cells #[.int .i64 a0_0, .slice A0_1 l0_1.length c0_1, .slice A0_2 l0_2.length c0_2] 57 (0, 0)) (by (with_reducible repeat (first | refine blk_drewN ?_ _ | refine blk_drew ?_ | refine blk_alloc ?_ _)); exact BK529.out)) : gb529 ≠ gb530)); have n6_ := Aside0.mk ((by rw [hg]; exact Nat.ne_of_gt (blk_lt (g := gb529) (o := .cells #[.int .i64 a0_0, .slice A0_1 l0_1.length c0_1, .slice A0_2 l0_2.length c0_2] 57 (0, 0)) (by (with_reducible repeat (first | refine blk_drewN ?_ _ | refine blk_drew ?_ | refine blk_alloc ?_ _)); exact BK529.out)) : gb530 ≠ gb529)); clear BK529; clear HB; have BK529 := n0_; have HB := n1_; have BK530 := n2_; have GW530 := n3_; have GE530 := n4_; have NB529_530 := n5_; have NB530_529 := n6_; clear n0_ n1_ n2_ n3_ n4_ n5_ n6_; clear hb hbox hg))
  repeat (go_quiet (first | ((with_reducible refine gate_dst (N := 2) rfl ?_); (try (refine gate_guard (by rfl) ?_; dsimp only)); refine box_event ?hg (N := 2) ?hd (cs := #[.int .i64 a0_0, .slice A0_1 l0_1.length c0_1, .slice A0_2 l0_2.length c0_2]) (t := 57) ?hr ?_; (case hd => rfl); (case hg => rfl); (case hr => first | (go_simp; done) | (go_simp; rfl)); intro gb529 hg w4 hbox hb; have n0_ := Aside0.mk (below_step (by repeat (first | (with_reducible first | exact HB.out | apply below_alloc | apply pw_below_drewN | apply below_drew1) | exact HB.out)) hb); have n1_ := Aside0.mk (hbox); have n2_ := Aside0.mk ((by rw [hg]; exact (below_size (by repeat (first | (with_reducible first | exact HB.out | apply below_alloc | apply pw_below_drewN | apply below_drew1) | exact HB.out))) : w.heap.size ≤ gb529)); have n3_ := Aside0.mk ((by rw [hg]; exact (below_size (by repeat (first | (with_reducible first | exact HB.out | apply below_alloc | apply pw_below_drewN | apply below_drew1) | exact HB.out))) : w.heap.size ≤ gb529)); clear HB; have HB := n0_; have BK529 := n1_; have GW529 := n2_; have GE529 := n3_; clear n0_ n1_ n2_ n3_; clear hb hbox hg) | ((with_reducible refine gate_dst (N := 3) rfl ?_); (try (refine gate_guard (by rfl) ?_; dsimp only)); refine box_event ?hg (N := 3) ?hd (cs := #[.int .i64 a1_0, .slice A1_1 l1_1.length c1_1, .slice A1_2 l1_2.length c1_2]) (t := 57) ?hr ?_; (case hd => rfl); (case hg => rfl); (case hr => first | (go_simp; done) | (go_simp; rfl)); intro gb530 hg w5 hbox hb; have n0_ := Aside0.mk (blk_below (g := gb529) (o := .cells #[.int .i64 a0_0, .slice A0_1 l0_1.length c0_1, .slice A0_2 l0_2.length c0_2] 57 (0, 0)) (by (with_reducible repeat (first | refine blk_drewN ?_ _ | refine blk_drew ?_ | refine blk_alloc ?_ _)); exact BK529.out) hb); have n1_ := Aside0.mk (below_step (by repeat (first | (with_reducible first | exact HB.out | apply below_alloc | apply pw_below_drewN | apply below_drew1 | refine below_set ?_ GE529.out) | exact HB.out)) hb); have n2_ := Aside0.mk (hbox); have n3_ := Aside0.mk ((by rw [hg]; exact (below_size (by repeat (first | (with_reducible first | exact HB.out | apply below_alloc | apply pw_below_drewN | apply below_drew1 | refine below_set ?_ GE529.out) | exact HB.out))) : w.heap.size ≤ gb530)); have n4_ := Aside0.mk ((by rw [hg]; exact (below_size (by repeat (first | (with_reducible first | exact HB.out | apply below_alloc | apply pw_below_drewN | apply below_drew1 | refine below_set ?_ GE529.out) | exact HB.out))) : w.heap.size ≤ gb530)); have n5_ := Aside0.mk ((by rw [hg]; exact Nat.ne_of_lt (blk_lt (g := gb529) (o := .cells #[.int .i64 a0_0, .slice A0_1 l0_1.length c0_1, .slice A0_2 l0_2.length c0_2] 57 (0, 0)) (by (with_reducible repeat (first | refine blk_drewN ?_ _ | refine blk_drew ?_ | refine blk_alloc ?_ _)); exact BK529.out)) : gb529 ≠ gb530)); have n6_ := Aside0.mk ((by rw [hg]; exact Nat.ne_of_gt (blk_lt (g := gb529) (o := .cells #[.int .i64 a0_0, .slice A0_1 l0_1.length c0_1, .slice A0_2 l0_2.length c0_2] 57 (0, 0)) (by (with_reducible repeat (first | refine blk_drewN ?_ _ | refine blk_drew ?_ | refine blk_alloc ?_ _)); exact BK529.out)) : gb530 ≠ gb529)); clear BK529; clear HB; have BK529 := n0_; have HB := n1_; have BK530 := n2_; have GW530 := n3_; have GE530 := n4_; have NB529_530 := n5_; have NB530_529 := n6_; clear n0_ n1_ n2_ n3_ n4_ n5_ n6_; clear hb hbox hg)); go_upto_region 1 with (first | ((with_reducible refine gate_dst (N := 2) rfl ?_); (try (refine gate_guard (by rfl) ?_; dsimp only)); refine box_event ?hg (N := 2) ?hd (cs := #[.int .i64 a0_0, .slice A0_1 l0_1.length c0_1, .slice A0_2 l0_2.length c0_2]) (t := 57) ?hr ?_; (case hd => rfl); (case hg => rfl); (case hr => first | (go_simp; done) | (go_simp; rfl)); intro gb529 hg w4 hbox hb; have n0_ := Aside0.mk (below_step (by repeat (first | (with_reducible first | exact HB.out | apply below_alloc | apply pw_below_drewN | apply below_drew1) | exact HB.out)) hb); have n1_ := Aside0.mk (hbox); have n2_ := Aside0.mk ((by rw [hg]; exact (below_size (by repeat (first | (with_reducible first | exact HB.out | apply below_alloc | apply pw_below_drewN | apply below_drew1) | exact HB.out))) : w.heap.size ≤ gb529)); have n3_ := Aside0.mk ((by rw [hg]; exact (below_size (by repeat (first | (with_reducible first | exact HB.out | apply below_alloc | apply pw_below_drewN | apply below_drew1) | exact HB.out))) : w.heap.size ≤ gb529)); clear HB; have HB := n0_; have BK529 := n1_; have GW529 := n2_; have GE529 := n3_; clear n0_ n1_ n2_ n3_; clear hb hbox hg) | ((with_reducible refine gate_dst (N := 3) rfl ?_); (try (refine gate_guard (by rfl) ?_; dsimp only)); refine box_event ?hg (N := 3) ?hd (cs := #[.int .i64 a1_0, .slice A1_1 l1_1.length c1_1, .slice A1_2 l1_2.length c1_2]) (t := 57) ?hr ?_; (case hd => rfl); (case hg => rfl); (case hr => first | (go_simp; done) | (go_simp; rfl)); intro gb530 hg w5 hbox hb; have n0_ := Aside0.mk (blk_below (g := gb529) (o := .cells #[.int .i64 a0_0, .slice A0_1 l0_1.length c0_1, .slice A0_2 l0_2.length c0_2] 57 (0, 0)) (by (with_reducible repeat (first | refine blk_drewN ?_ _ | refine blk_drew ?_ | refine blk_alloc ?_ _)); exact BK529.out) hb); have n1_ := Aside0.mk (below_step (by repeat (first | (with_reducible first | exact HB.out | apply below_alloc | apply pw_below_drewN | apply below_drew1 | refine below_set ?_ GE529.out) | exact HB.out)) hb); have n2_ := Aside0.mk (hbox); have n3_ := Aside0.mk ((by rw [hg]; exact (below_size (by repeat (first | (with_reducible first | exact HB.out | apply below_alloc | apply pw_below_drewN | apply below_drew1 | refine below_set ?_ GE529.out) | exact HB.out))) : w.heap.size ≤ gb530)); have n4_ := Aside0.mk ((by rw [hg]; exact (below_size (by repeat (first | (with_reducible first | exact HB.out | apply below_alloc | apply pw_below_drewN | apply below_drew1 | refine below_set ?_ GE529.out) | exact HB.out))) : w.heap.size ≤ gb530)); have n5_ := Aside0.mk ((by rw [hg]; exact Nat.ne_of_lt (blk_lt (g := gb529) (o := .cells #[.int .i64 a0_0, .slice A0_1 l0_1.length c0_1, .slice A0_2 l0_2.length c0_2] 57 (0, 0)) (by (with_reducible repeat (first | refine blk_drewN ?_ _ | refine blk_drew ?_ | refine blk_alloc ?_ _)); exact BK529.out)) : gb529 ≠ gb530)); have n6_ := Aside0.mk ((by rw [hg]; exact Nat.ne_of_gt (blk_lt (g := gb529) (o := .cells #[.int .i64 a0_0, .slice A0_1 l0_1.length c0_1, .slice A0_2 l0_2.length c0_2] 57 (0, 0)) (by (with_reducible repeat (first | refine blk_drewN ?_ _ | refine blk_drew ?_ | refine blk_alloc ?_ _)); exact BK529.out)) : gb530 ≠ gb529)); clear BK529; clear HB; have BK529 := n0_; have HB := n1_; have BK530 := n2_; have GW530 := n3_; have GE530 := n4_; have NB529_530 := n5_; have NB530_529 := n6_; clear n0_ n1_ n2_ n3_ n4_ n5_ n6_; clear hb hbox hg)))
  (try simp only [Act.put, List.setIfInBounds_toArray, List.set_cons_zero, List.set_cons_succ])
  go_cut [29] (fun v29 wc => ∃ (kq : Nat) (x29_2 : Bool), v29 = .bool x29_2 ∧ Aside0 (tollgateref08_SameConfig.j0 kq x29_2 a0_0 l0_1 l0_2 a1_0 l1_1 l1_2 = some r) ∧ Aside0 (kq ≤ k) ∧ Aside0 (wc.heap[gb529]? = some (.cells #[.int .i64 a0_0, (.slice A0_1 l0_1.length c0_1), (.slice A0_2 l0_2.length c0_2)] 57 (0, 0))) ∧ Aside0 (wc.heap[gb530]? = some (.cells #[.int .i64 a1_0, (.slice A1_1 l1_1.length c1_1), (.slice A1_2 l1_2.length c1_2)] 57 (0, 0))) ∧ Aside0 (Below w.heap.size w wc))
  case first =>
    have H := HC3.out
    clear HC3
    by_cases c6 : a0_0 = a1_0
    · rw [if_pos c6] at H
      have c6b0 : (a0_0 == a1_0) = true := beq_iff_eq.mpr c6
      have c6b1 : (a0_0 != a1_0) = false := bne_eq_false_iff_eq.mpr c6
      clear c6
      (first | rw [c6b0] | (simp only [i64_w, i32_w]; rw [c6b0]) | skip)
      by_cases c7 : (l0_2.length : Int) = (l1_2.length : Int)
      · rw [if_pos c7] at H
        have c7b0 : ((l0_2.length : Int) == (l1_2.length : Int)) = true := beq_iff_eq.mpr c7
        have c7b1 : ((l0_2.length : Int) != (l1_2.length : Int)) = false := bne_eq_false_iff_eq.mpr c7
        have c7b2 : (l0_2.length == l1_2.length) = true := by first | simpa using c7 | (simp at c7 ⊢; omega)
        clear c7
        have H' := Aside0.mk H
        clear H
        have hnb8 := NB529_530.out
        have hnc8 := NB530_529.out
        have hcz9_0 : w5.cell? ⟨gb529, 0, none⟩ = some (.int .i64 a0_0) := (blk_cell BK529.out 0).trans rfl
        have hcz9_1 : w5.cell? ⟨gb529, 1, none⟩ = some (.slice A0_1 l0_1.length c0_1) := (blk_cell BK529.out 1).trans rfl
        have hcz9_2 : w5.cell? ⟨gb529, 2, none⟩ = some (.slice A0_2 l0_2.length c0_2) := (blk_cell BK529.out 2).trans rfl
        have hfz9_0 := blk_frozen BK529.out 0
        have hfz9_1 := blk_frozen BK529.out 1
        have hfz9_2 := blk_frozen BK529.out 2
        have hcz10_0 : w5.cell? ⟨gb530, 0, none⟩ = some (.int .i64 a1_0) := (blk_cell BK530.out 0).trans rfl
        have hcz10_1 : w5.cell? ⟨gb530, 1, none⟩ = some (.slice A1_1 l1_1.length c1_1) := (blk_cell BK530.out 1).trans rfl
        have hcz10_2 : w5.cell? ⟨gb530, 2, none⟩ = some (.slice A1_2 l1_2.length c1_2) := (blk_cell BK530.out 2).trans rfl
        have hfz10_0 := blk_frozen BK530.out 0
        have hfz10_1 := blk_frozen BK530.out 1
        have hfz10_2 := blk_frozen BK530.out 2
        go_wp2
        repeat (go_quiet (fail); try go_wp2)
        go_meet
        case rel => exact ⟨_, (((l0_1.length : Int) != (l1_1.length : Int))), (by first | rfl | (simp; done) | (simp [*]; done)), H', ⟨by first | omega | exact Nat.le_refl _⟩, ⟨by (with_reducible repeat (first | refine blk_drewN ?_ _ | refine blk_drew ?_ | refine blk_alloc ?_ _)); exact BK529.out⟩, ⟨by (with_reducible repeat (first | refine blk_drewN ?_ _ | refine blk_drew ?_ | refine blk_alloc ?_ _)); exact BK530.out⟩, ⟨by repeat (first | (with_reducible first | exact HB.out | apply below_alloc | apply pw_below_drewN | apply below_drew1 | refine below_set ?_ GE529.out | refine below_set ?_ GE530.out) | exact HB.out)⟩⟩
      · rw [if_neg c7] at H
        have c7b0 : ((l0_2.length : Int) == (l1_2.length : Int)) = false := beq_eq_false_iff_ne.mpr c7
        have c7b1 : ((l0_2.length : Int) != (l1_2.length : Int)) = true := bne_iff_ne.mpr c7
        have c7b2 : (l0_2.length == l1_2.length) = false := by first | simpa using c7 | (simp at c7 ⊢; omega)
        have H' := Aside0.mk H
        clear H
        have hnb11 := NB529_530.out
        have hnc11 := NB530_529.out
        have hcz12_0 : w5.cell? ⟨gb529, 0, none⟩ = some (.int .i64 a0_0) := (blk_cell BK529.out 0).trans rfl
        have hcz12_1 : w5.cell? ⟨gb529, 1, none⟩ = some (.slice A0_1 l0_1.length c0_1) := (blk_cell BK529.out 1).trans rfl
        have hcz12_2 : w5.cell? ⟨gb529, 2, none⟩ = some (.slice A0_2 l0_2.length c0_2) := (blk_cell BK529.out 2).trans rfl
        have hfz12_0 := blk_frozen BK529.out 0
        have hfz12_1 := blk_frozen BK529.out 1
        have hfz12_2 := blk_frozen BK529.out 2
        have hcz13_0 : w5.cell? ⟨gb530, 0, none⟩ = some (.int .i64 a1_0) := (blk_cell BK530.out 0).trans rfl
        have hcz13_1 : w5.cell? ⟨gb530, 1, none⟩ = some (.slice A1_1 l1_1.length c1_1) := (blk_cell BK530.out 1).trans rfl
        have hcz13_2 : w5.cell? ⟨gb530, 2, none⟩ = some (.slice A1_2 l1_2.length c1_2) := (blk_cell BK530.out 2).trans rfl
        have hfz13_0 := blk_frozen BK530.out 0
        have hfz13_1 := blk_frozen BK530.out 1
        have hfz13_2 := blk_frozen BK530.out 2
        go_wp2
        repeat (go_quiet (fail); try go_wp2)
        go_meet
        case rel => exact ⟨_, (true), (by first | rfl | (simp; done) | (simp [*]; done)), H', ⟨by first | omega | exact Nat.le_refl _⟩, ⟨by (with_reducible repeat (first | refine blk_drewN ?_ _ | refine blk_drew ?_ | refine blk_alloc ?_ _)); exact BK529.out⟩, ⟨by (with_reducible repeat (first | refine blk_drewN ?_ _ | refine blk_drew ?_ | refine blk_alloc ?_ _)); exact BK530.out⟩, ⟨by repeat (first | (with_reducible first | exact HB.out | apply below_alloc | apply pw_below_drewN | apply below_drew1 | refine below_set ?_ GE529.out | refine below_set ?_ GE530.out) | exact HB.out)⟩⟩
    · rw [if_neg c6] at H
      have c6b0 : (a0_0 == a1_0) = false := beq_eq_false_iff_ne.mpr c6
      have c6b1 : (a0_0 != a1_0) = true := bne_iff_ne.mpr c6
      (first | rw [c6b0] | (simp only [i64_w, i32_w]; rw [c6b0]) | skip)
      have H' := Aside0.mk H
      clear H
      have hnb14 := NB529_530.out
      have hnc14 := NB530_529.out
      have hcz15_0 : w5.cell? ⟨gb529, 0, none⟩ = some (.int .i64 a0_0) := (blk_cell BK529.out 0).trans rfl
      have hcz15_1 : w5.cell? ⟨gb529, 1, none⟩ = some (.slice A0_1 l0_1.length c0_1) := (blk_cell BK529.out 1).trans rfl
      have hcz15_2 : w5.cell? ⟨gb529, 2, none⟩ = some (.slice A0_2 l0_2.length c0_2) := (blk_cell BK529.out 2).trans rfl
      have hfz15_0 := blk_frozen BK529.out 0
      have hfz15_1 := blk_frozen BK529.out 1
      have hfz15_2 := blk_frozen BK529.out 2
      have hcz16_0 : w5.cell? ⟨gb530, 0, none⟩ = some (.int .i64 a1_0) := (blk_cell BK530.out 0).trans rfl
      have hcz16_1 : w5.cell? ⟨gb530, 1, none⟩ = some (.slice A1_1 l1_1.length c1_1) := (blk_cell BK530.out 1).trans rfl
      have hcz16_2 : w5.cell? ⟨gb530, 2, none⟩ = some (.slice A1_2 l1_2.length c1_2) := (blk_cell BK530.out 2).trans rfl
      have hfz16_0 := blk_frozen BK530.out 0
      have hfz16_1 := blk_frozen BK530.out 1
      have hfz16_2 := blk_frozen BK530.out 2
      go_wp2
      repeat (go_quiet (fail); try go_wp2)
      go_meet
      case rel => exact ⟨_, (true), (by first | rfl | (simp; done) | (simp [*]; done)), H', ⟨by first | omega | exact Nat.le_refl _⟩, ⟨by (with_reducible repeat (first | refine blk_drewN ?_ _ | refine blk_drew ?_ | refine blk_alloc ?_ _)); exact BK529.out⟩, ⟨by (with_reducible repeat (first | refine blk_drewN ?_ _ | refine blk_drew ?_ | refine blk_alloc ?_ _)); exact BK530.out⟩, ⟨by repeat (first | (with_reducible first | exact HB.out | apply below_alloc | apply pw_below_drewN | apply below_drew1 | refine below_set ?_ GE529.out | refine below_set ?_ GE530.out) | exact HB.out)⟩⟩
  case rest =>
    clear HC3
    try clear c1
    try clear p2
    try clear c3
    try clear c6
    try clear c6b0
    try clear c6b1
    try clear c7
    try clear c7b0
    try clear c7b1
    try clear c7b2
    try clear c8
    try clear c11
    try clear c14
    try clear hcz10_0
    try clear hcz10_1
    try clear hcz10_2
    try clear hcz12_0
    try clear hcz12_1
    try clear hcz12_2
    try clear hcz13_0
    try clear hcz13_1
    try clear hcz13_2
    try clear hcz15_0
    try clear hcz15_1
    try clear hcz15_2
    try clear hcz16_0
    try clear hcz16_1
    try clear hcz16_2
    try clear hcz9_0
    try clear hcz9_1
    try clear hcz9_2
    try clear hfz10_0
    try clear hfz10_1
    try clear hfz10_2
    try clear hfz12_0
    try clear hfz12_1
    try clear hfz12_2
    try clear hfz13_0
    try clear hfz13_1
    try clear hfz13_2
    try clear hfz15_0
    try clear hfz15_1
    try clear hfz15_2
    try clear hfz16_0
    try clear hfz16_1
    try clear hfz16_2
    try clear hfz9_0
    try clear hfz9_1
    try clear hfz9_2
    obtain ⟨kq, x29_2, rfl, HA, HJ2, BK529, BK530, HB⟩ := hcut
    cases kq with
    | zero => exact absurd HA.out (by simp [tollgateref08_SameConfig.j0])
    | succ kj2 =>
      have H := HA.out
      clear HA
      simp only [tollgateref08_SameConfig.j0] at H
      by_cases c17 : x29_2 = true
      · subst c17
        have H1 : (some false) = some r := by rw [if_pos rfl] at H; exact H
        clear H
        have H := H1
        clear H1
        obtain rfl := Option.some.inj H
        go_wp2
        repeat (go_quiet (fail); try go_wp2)
        go_ret
        exact ⟨by first | rfl | (simp [errW_none, errW_some] <;> rfl) | (simp [*, errW_none, errW_some] <;> rfl), by repeat (first | (with_reducible first | exact HB.out | apply below_alloc | apply pw_below_drewN | apply below_drew1 | refine below_set ?_ GE529.out | refine below_set ?_ GE530.out) | exact HB.out)⟩
      · replace c17 := Bool.eq_false_iff.mpr c17
        subst c17
        have H1 : (tollgateref08_SameConfig.l0 kj2 0 a0_0 l0_1 l0_2 a1_0 l1_1 l1_2) = some r := by rw [if_neg (show ¬ (false = true) by decide)] at H; exact H
        clear H
        have H := H1
        clear H1
        have H' := Aside0.mk H
        clear H
        go_wp2
        repeat (go_quiet (fail); try go_wp2)
        go_loopg [5] kj2 (fun kq v5 w' => ∃ (x5_2 : Int), v5 = .int .i64 x5_2 ∧ Aside0 (tollgateref08_SameConfig.l0 kq x5_2 a0_0 l0_1 l0_2 a1_0 l1_1 l1_2 = some r) ∧ Aside0 (kq ≤ kj2) ∧ Aside0 (w'.heap[gb529]? = some (.cells #[.int .i64 a0_0, (.slice A0_1 l0_1.length c0_1), (.slice A0_2 l0_2.length c0_2)] 57 (0, 0))) ∧ Aside0 (w'.heap[gb530]? = some (.cells #[.int .i64 a1_0, (.slice A1_1 l1_1.length c1_1), (.slice A1_2 l1_2.length c1_2)] 57 (0, 0))) ∧ Aside0 (Below w.heap.size w w'))
        case atStart => exact ⟨(0), (by first | rfl | (simp; done) | (simp [*]; done)), H', ⟨Nat.le_refl _⟩, ⟨by (with_reducible repeat (first | refine blk_drewN ?_ _ | refine blk_drew ?_ | refine blk_alloc ?_ _)); exact BK529.out⟩, ⟨by (with_reducible repeat (first | refine blk_drewN ?_ _ | refine blk_drew ?_ | refine blk_alloc ?_ _)); exact BK530.out⟩, ⟨by repeat (first | (with_reducible first | exact HB.out | apply below_alloc | apply pw_below_drewN | apply below_drew1 | refine below_set ?_ GE529.out | refine below_set ?_ GE530.out) | exact HB.out)⟩⟩
        case round =>
          clear H'
          try clear c1
          try clear p2
          try clear c3
          try clear c6
          try clear c6b0
          try clear c6b1
          try clear c7
          try clear c7b0
          try clear c7b1
          try clear c7b2
          try clear c8
          try clear c11
          try clear c14
          try clear c17
          try clear hcz10_0
          try clear hcz10_1
          try clear hcz10_2
          try clear hcz12_0
          try clear hcz12_1
          try clear hcz12_2
          try clear hcz13_0
          try clear hcz13_1
          try clear hcz13_2
          try clear hcz15_0
          try clear hcz15_1
          try clear hcz15_2
          try clear hcz16_0
          try clear hcz16_1
          try clear hcz16_2
          try clear hcz9_0
          try clear hcz9_1
          try clear hcz9_2
          try clear hfz10_0
          try clear hfz10_1
          try clear hfz10_2
          try clear hfz12_0
          try clear hfz12_1
          try clear hfz12_2
          try clear hfz13_0
          try clear hfz13_1
          try clear hfz13_2
          try clear hfz15_0
          try clear hfz15_1
          try clear hfz15_2
          try clear hfz16_0
          try clear hfz16_1
          try clear hfz16_2
          try clear hfz9_0
          try clear hfz9_1
          try clear hfz9_2
          try clear p2
          obtain ⟨x5_2, rfl, HA, HK2, BK529, BK530, HB⟩ := hrel
          cases gk with
          | zero => exact absurd HA.out (by simp [tollgateref08_SameConfig.l0])
          | succ k2 =>
            have H := HA.out
            clear HA
            simp only [tollgateref08_SameConfig.l0] at H
            by_cases c18 : x5_2 < (l0_2.length : Int)
            · rw [if_pos c18] at H
              have c18b0 : decide (x5_2 < (l0_2.length : Int)) = true := decide_eq_true c18
              clear c18
              by_cases c19 : 0 ≤ x5_2
              · rw [if_pos c19] at H
                have c19b0 : decide (0 ≤ x5_2) = true := decide_eq_true c19
                clear c19
                by_cases c20 : x5_2 < (l1_2.length : Int)
                · rw [if_pos c20] at H
                  have c20b0 : decide (x5_2 < (l1_2.length : Int)) = true := decide_eq_true c20
                  clear c20
                  by_cases c21 : ((rd_T69 l0_2 x5_2).f0).toList = ((rd_T69 l1_2 x5_2).f0).toList
                  · rw [if_pos c21] at H
                    have c21b0 : (((rd_T69 l0_2 x5_2).f0).toList == ((rd_T69 l1_2 x5_2).f0).toList) = true := beq_iff_eq.mpr c21
                    have c21b1 : (((rd_T69 l0_2 x5_2).f0).toList != ((rd_T69 l1_2 x5_2).f0).toList) = false := bne_eq_false_iff_eq.mpr c21
                    clear c21
                    replace H := Option.bind_eq_some_iff.mp H
                    obtain ⟨t535, A220, H⟩ := H
                    replace H : (if t535 = true then (tollgateref08_SameConfig.l0 k2 (wrap64 (x5_2 + 1)) a0_0 l0_1 l0_2 a1_0 l1_1 l1_2) else (some false)) = some r := H
                    have A22 := Aside0.mk A220
                    clear A220
                    by_cases c23 : t535 = true
                    · subst c23
                      have H1 : (tollgateref08_SameConfig.l0 k2 (wrap64 (x5_2 + 1)) a0_0 l0_1 l0_2 a1_0 l1_1 l1_2) = some r := by rw [if_pos rfl] at H; exact H
                      clear H
                      have H := H1
                      clear H1
                      have H' := Aside0.mk H
                      clear H
                      have hnb24 := NB529_530.out
                      have hnc24 := NB530_529.out
                      have hcz25_0 : wr.cell? ⟨gb529, 0, none⟩ = some (.int .i64 a0_0) := (blk_cell BK529.out 0).trans rfl
                      have hcz25_1 : wr.cell? ⟨gb529, 1, none⟩ = some (.slice A0_1 l0_1.length c0_1) := (blk_cell BK529.out 1).trans rfl
                      have hcz25_2 : wr.cell? ⟨gb529, 2, none⟩ = some (.slice A0_2 l0_2.length c0_2) := (blk_cell BK529.out 2).trans rfl
                      have hfz25_0 := blk_frozen BK529.out 0
                      have hfz25_1 := blk_frozen BK529.out 1
                      have hfz25_2 := blk_frozen BK529.out 2
                      have p531 : 0 ≤ (x5_2 : Int) := of_decide_eq_true (by first | (with_reducible assumption) | assumption)
                      have q531 : x5_2 < (l0_2.length : Int) := of_decide_eq_true (by first | (with_reducible assumption) | assumption)
                      obtain ⟨ad531, A531_1, c531_1, e531, hx531_0, hx531_1, hl531_1, hi531_1⟩ := at_T69 HR0_2.out x5_2 p531 q531
                      cases e531
                      replace hx531_0 := (HB.out.cell (World.block_lt_of_cell? w _ hx531_0)).trans hx531_0
                      replace hx531_1 := (HB.out.cell (World.block_lt_of_cell? w _ hx531_1)).trans hx531_1
                      have HR531_1 := Aside0.mk hi531_1
                      have HC531_1 := Aside0.mk hl531_1
                      clear hi531_1 hl531_1
                      replace p531 := eq_true p531
                      replace q531 := eq_true q531
                      have hcz26_0 : wr.cell? ⟨gb530, 0, none⟩ = some (.int .i64 a1_0) := (blk_cell BK530.out 0).trans rfl
                      have hcz26_1 : wr.cell? ⟨gb530, 1, none⟩ = some (.slice A1_1 l1_1.length c1_1) := (blk_cell BK530.out 1).trans rfl
                      have hcz26_2 : wr.cell? ⟨gb530, 2, none⟩ = some (.slice A1_2 l1_2.length c1_2) := (blk_cell BK530.out 2).trans rfl
                      have hfz26_0 := blk_frozen BK530.out 0
                      have hfz26_1 := blk_frozen BK530.out 1
                      have hfz26_2 := blk_frozen BK530.out 2
                      have p532 : 0 ≤ (x5_2 : Int) := of_decide_eq_true (by first | (with_reducible assumption) | assumption)
                      have q532 : x5_2 < (l1_2.length : Int) := of_decide_eq_true (by first | (with_reducible assumption) | assumption)
                      obtain ⟨ad532, A532_1, c532_1, e532, hx532_0, hx532_1, hl532_1, hi532_1⟩ := at_T69 HR1_2.out x5_2 p532 q532
                      cases e532
                      replace hx532_0 := (HB.out.cell (World.block_lt_of_cell? w _ hx532_0)).trans hx532_0
                      replace hx532_1 := (HB.out.cell (World.block_lt_of_cell? w _ hx532_1)).trans hx532_1
                      have HR532_1 := Aside0.mk hi532_1
                      have HC532_1 := Aside0.mk hl532_1
                      clear hi532_1 hl532_1
                      replace p532 := eq_true p532
                      replace q532 := eq_true q532
                      have p533 : 0 ≤ (x5_2 : Int) := of_decide_eq_true (by first | (with_reducible assumption) | assumption)
                      have q533 : x5_2 < (l0_2.length : Int) := of_decide_eq_true (by first | (with_reducible assumption) | assumption)
                      obtain ⟨ad533, A533_1, c533_1, e533, hx533_0, hx533_1, hl533_1, hi533_1⟩ := at_T69 HR0_2.out x5_2 p533 q533
                      obtain rfl : ad531 = ad533 := (by injection e533)
                      replace hx533_0 := (HB.out.cell (World.block_lt_of_cell? w _ hx533_0)).trans hx533_0
                      replace hx533_1 := (HB.out.cell (World.block_lt_of_cell? w _ hx533_1)).trans hx533_1
                      have HR533_1 := Aside0.mk hi533_1
                      have HC533_1 := Aside0.mk hl533_1
                      clear hi533_1 hl533_1
                      replace p533 := eq_true p533
                      replace q533 := eq_true q533
                      have ea_ := Option.some.inj (hx531_1.symm.trans hx533_1)
                      injection ea_ with ea_ en_ ec_
                      subst ea_
                      subst ec_
                      clear en_
                      have p534 : 0 ≤ (x5_2 : Int) := of_decide_eq_true (by first | (with_reducible assumption) | assumption)
                      have q534 : x5_2 < (l1_2.length : Int) := of_decide_eq_true (by first | (with_reducible assumption) | assumption)
                      obtain ⟨ad534, A534_1, c534_1, e534, hx534_0, hx534_1, hl534_1, hi534_1⟩ := at_T69 HR1_2.out x5_2 p534 q534
                      obtain rfl : ad532 = ad534 := (by injection e534)
                      replace hx534_0 := (HB.out.cell (World.block_lt_of_cell? w _ hx534_0)).trans hx534_0
                      replace hx534_1 := (HB.out.cell (World.block_lt_of_cell? w _ hx534_1)).trans hx534_1
                      have HR534_1 := Aside0.mk hi534_1
                      have HC534_1 := Aside0.mk hl534_1
                      clear hi534_1 hl534_1
                      replace p534 := eq_true p534
                      replace q534 := eq_true q534
                      have ea_ := Option.some.inj (hx532_1.symm.trans hx534_1)
                      injection ea_ with ea_ en_ ec_
                      subst ea_
                      subst ec_
                      clear en_
                      go_wp2_with (first | (go_at_call 62; (with_reducible refine (tollgateref08_SameTargets.calls k2 _ _ ((rd_T69 l0_2 x5_2).f1) _ _ ((rd_T69 l1_2 x5_2).f1) true _ ?side1 ?side2 ?side3 ?side4 A22.out).mono ?_); (case side1 => repeat (first | exact (Kd.C_below HR533_1.out HB.out) | (with_reducible refine Kd.C_alloc ?_ _) | (with_reducible refine Kd.C_drewN ?_ _) | (with_reducible refine Kd.C_drew ?_))); (case side2 => exact HC533_1.out); (case side3 => repeat (first | exact (Kd.C_below HR534_1.out HB.out) | (with_reducible refine Kd.C_alloc ?_ _) | (with_reducible refine Kd.C_drewN ?_ _) | (with_reducible refine Kd.C_drew ?_))); (case side4 => exact HC534_1.out); rintro e w' ⟨rfl, ⟨nd, rfl⟩⟩; (try first | exact ⟨rfl, _, World.drewN_drewN _ _ _⟩ | exact ⟨rfl, _, Eq.trans (World.drewN_drewN _ _ _) (congrArg (World.drewN _) (Nat.add_assoc _ _ _))⟩)))
                      repeat (go_quiet (first | (go_at_call 62; (with_reducible refine (tollgateref08_SameTargets.calls k2 _ _ ((rd_T69 l0_2 x5_2).f1) _ _ ((rd_T69 l1_2 x5_2).f1) true _ ?side1 ?side2 ?side3 ?side4 A22.out).mono ?_); (case side1 => repeat (first | exact (Kd.C_below HR533_1.out HB.out) | (with_reducible refine Kd.C_alloc ?_ _) | (with_reducible refine Kd.C_drewN ?_ _) | (with_reducible refine Kd.C_drew ?_))); (case side2 => exact HC533_1.out); (case side3 => repeat (first | exact (Kd.C_below HR534_1.out HB.out) | (with_reducible refine Kd.C_alloc ?_ _) | (with_reducible refine Kd.C_drewN ?_ _) | (with_reducible refine Kd.C_drew ?_))); (case side4 => exact HC534_1.out); rintro e w' ⟨rfl, ⟨nd, rfl⟩⟩; (try first | exact ⟨rfl, _, World.drewN_drewN _ _ _⟩ | exact ⟨rfl, _, Eq.trans (World.drewN_drewN _ _ _) (congrArg (World.drewN _) (Nat.add_assoc _ _ _))⟩))); try go_wp2_with (first | (go_at_call 62; (with_reducible refine (tollgateref08_SameTargets.calls k2 _ _ ((rd_T69 l0_2 x5_2).f1) _ _ ((rd_T69 l1_2 x5_2).f1) true _ ?side1 ?side2 ?side3 ?side4 A22.out).mono ?_); (case side1 => repeat (first | exact (Kd.C_below HR533_1.out HB.out) | (with_reducible refine Kd.C_alloc ?_ _) | (with_reducible refine Kd.C_drewN ?_ _) | (with_reducible refine Kd.C_drew ?_))); (case side2 => exact HC533_1.out); (case side3 => repeat (first | exact (Kd.C_below HR534_1.out HB.out) | (with_reducible refine Kd.C_alloc ?_ _) | (with_reducible refine Kd.C_drewN ?_ _) | (with_reducible refine Kd.C_drew ?_))); (case side4 => exact HC534_1.out); rintro e w' ⟨rfl, ⟨nd, rfl⟩⟩; (try first | exact ⟨rfl, _, World.drewN_drewN _ _ _⟩ | exact ⟨rfl, _, Eq.trans (World.drewN_drewN _ _ _) (congrArg (World.drewN _) (Nat.add_assoc _ _ _))⟩))))
                      go_roundg k2
                      case measure => have := HJ2.out; have := HK2.out; omega
                      case rel => exact ⟨(wrap64 (x5_2 + 1)), (by first | rfl | (simp; done) | (simp [*]; done)), H', ⟨by have := HJ2.out; have := HK2.out; omega⟩, ⟨by (with_reducible repeat (first | refine blk_drewN ?_ _ | refine blk_drew ?_ | refine blk_alloc ?_ _)); exact BK529.out⟩, ⟨by (with_reducible repeat (first | refine blk_drewN ?_ _ | refine blk_drew ?_ | refine blk_alloc ?_ _)); exact BK530.out⟩, ⟨by repeat (first | (with_reducible first | exact HB.out | apply below_alloc | apply pw_below_drewN | apply below_drew1 | refine below_set ?_ GE529.out | refine below_set ?_ GE530.out) | exact HB.out)⟩⟩
                    · replace c23 := Bool.eq_false_iff.mpr c23
                      subst c23
                      have H1 : (some false) = some r := by rw [if_neg (show ¬ (false = true) by decide)] at H; exact H
                      clear H
                      have H := H1
                      clear H1
                      obtain rfl := Option.some.inj H
                      have hnb27 := NB529_530.out
                      have hnc27 := NB530_529.out
                      have hcz28_0 : wr.cell? ⟨gb529, 0, none⟩ = some (.int .i64 a0_0) := (blk_cell BK529.out 0).trans rfl
                      have hcz28_1 : wr.cell? ⟨gb529, 1, none⟩ = some (.slice A0_1 l0_1.length c0_1) := (blk_cell BK529.out 1).trans rfl
                      have hcz28_2 : wr.cell? ⟨gb529, 2, none⟩ = some (.slice A0_2 l0_2.length c0_2) := (blk_cell BK529.out 2).trans rfl
                      have hfz28_0 := blk_frozen BK529.out 0
                      have hfz28_1 := blk_frozen BK529.out 1
                      have hfz28_2 := blk_frozen BK529.out 2
                      have p531 : 0 ≤ (x5_2 : Int) := of_decide_eq_true (by first | (with_reducible assumption) | assumption)
                      have q531 : x5_2 < (l0_2.length : Int) := of_decide_eq_true (by first | (with_reducible assumption) | assumption)
                      obtain ⟨ad531, A531_1, c531_1, e531, hx531_0, hx531_1, hl531_1, hi531_1⟩ := at_T69 HR0_2.out x5_2 p531 q531
                      cases e531
                      replace hx531_0 := (HB.out.cell (World.block_lt_of_cell? w _ hx531_0)).trans hx531_0
                      replace hx531_1 := (HB.out.cell (World.block_lt_of_cell? w _ hx531_1)).trans hx531_1
                      have HR531_1 := Aside0.mk hi531_1
                      have HC531_1 := Aside0.mk hl531_1
                      clear hi531_1 hl531_1
                      replace p531 := eq_true p531
                      replace q531 := eq_true q531
                      have hcz29_0 : wr.cell? ⟨gb530, 0, none⟩ = some (.int .i64 a1_0) := (blk_cell BK530.out 0).trans rfl
                      have hcz29_1 : wr.cell? ⟨gb530, 1, none⟩ = some (.slice A1_1 l1_1.length c1_1) := (blk_cell BK530.out 1).trans rfl
                      have hcz29_2 : wr.cell? ⟨gb530, 2, none⟩ = some (.slice A1_2 l1_2.length c1_2) := (blk_cell BK530.out 2).trans rfl
                      have hfz29_0 := blk_frozen BK530.out 0
                      have hfz29_1 := blk_frozen BK530.out 1
                      have hfz29_2 := blk_frozen BK530.out 2
                      have p532 : 0 ≤ (x5_2 : Int) := of_decide_eq_true (by first | (with_reducible assumption) | assumption)
                      have q532 : x5_2 < (l1_2.length : Int) := of_decide_eq_true (by first | (with_reducible assumption) | assumption)
                      obtain ⟨ad532, A532_1, c532_1, e532, hx532_0, hx532_1, hl532_1, hi532_1⟩ := at_T69 HR1_2.out x5_2 p532 q532
                      cases e532
                      replace hx532_0 := (HB.out.cell (World.block_lt_of_cell? w _ hx532_0)).trans hx532_0
                      replace hx532_1 := (HB.out.cell (World.block_lt_of_cell? w _ hx532_1)).trans hx532_1
                      have HR532_1 := Aside0.mk hi532_1
                      have HC532_1 := Aside0.mk hl532_1
                      clear hi532_1 hl532_1
                      replace p532 := eq_true p532
                      replace q532 := eq_true q532
                      have p533 : 0 ≤ (x5_2 : Int) := of_decide_eq_true (by first | (with_reducible assumption) | assumption)
                      have q533 : x5_2 < (l0_2.length : Int) := of_decide_eq_true (by first | (with_reducible assumption) | assumption)
                      obtain ⟨ad533, A533_1, c533_1, e533, hx533_0, hx533_1, hl533_1, hi533_1⟩ := at_T69 HR0_2.out x5_2 p533 q533
                      obtain rfl : ad531 = ad533 := (by injection e533)
                      replace hx533_0 := (HB.out.cell (World.block_lt_of_cell? w _ hx533_0)).trans hx533_0
                      replace hx533_1 := (HB.out.cell (World.block_lt_of_cell? w _ hx533_1)).trans hx533_1
                      have HR533_1 := Aside0.mk hi533_1
                      have HC533_1 := Aside0.mk hl533_1
                      clear hi533_1 hl533_1
                      replace p533 := eq_true p533
                      replace q533 := eq_true q533
                      have ea_ := Option.some.inj (hx531_1.symm.trans hx533_1)
                      injection ea_ with ea_ en_ ec_
                      subst ea_
                      subst ec_
                      clear en_
                      have p534 : 0 ≤ (x5_2 : Int) := of_decide_eq_true (by first | (with_reducible assumption) | assumption)
                      have q534 : x5_2 < (l1_2.length : Int) := of_decide_eq_true (by first | (with_reducible assumption) | assumption)
                      obtain ⟨ad534, A534_1, c534_1, e534, hx534_0, hx534_1, hl534_1, hi534_1⟩ := at_T69 HR1_2.out x5_2 p534 q534
                      obtain rfl : ad532 = ad534 := (by injection e534)
                      replace hx534_0 := (HB.out.cell (World.block_lt_of_cell? w _ hx534_0)).trans hx534_0
                      replace hx534_1 := (HB.out.cell (World.block_lt_of_cell? w _ hx534_1)).trans hx534_1
                      have HR534_1 := Aside0.mk hi534_1
                      have HC534_1 := Aside0.mk hl534_1
                      clear hi534_1 hl534_1
                      replace p534 := eq_true p534
                      replace q534 := eq_true q534
                      have ea_ := Option.some.inj (hx532_1.symm.trans hx534_1)
                      injection ea_ with ea_ en_ ec_
                      subst ea_
                      subst ec_
                      clear en_
                      go_wp2_with (first | (go_at_call 62; (with_reducible refine (tollgateref08_SameTargets.calls k2 _ _ ((rd_T69 l0_2 x5_2).f1) _ _ ((rd_T69 l1_2 x5_2).f1) false _ ?side1 ?side2 ?side3 ?side4 A22.out).mono ?_); (case side1 => repeat (first | exact (Kd.C_below HR533_1.out HB.out) | (with_reducible refine Kd.C_alloc ?_ _) | (with_reducible refine Kd.C_drewN ?_ _) | (with_reducible refine Kd.C_drew ?_))); (case side2 => exact HC533_1.out); (case side3 => repeat (first | exact (Kd.C_below HR534_1.out HB.out) | (with_reducible refine Kd.C_alloc ?_ _) | (with_reducible refine Kd.C_drewN ?_ _) | (with_reducible refine Kd.C_drew ?_))); (case side4 => exact HC534_1.out); rintro e w' ⟨rfl, ⟨nd, rfl⟩⟩; (try first | exact ⟨rfl, _, World.drewN_drewN _ _ _⟩ | exact ⟨rfl, _, Eq.trans (World.drewN_drewN _ _ _) (congrArg (World.drewN _) (Nat.add_assoc _ _ _))⟩)))
                      repeat (go_quiet (first | (go_at_call 62; (with_reducible refine (tollgateref08_SameTargets.calls k2 _ _ ((rd_T69 l0_2 x5_2).f1) _ _ ((rd_T69 l1_2 x5_2).f1) false _ ?side1 ?side2 ?side3 ?side4 A22.out).mono ?_); (case side1 => repeat (first | exact (Kd.C_below HR533_1.out HB.out) | (with_reducible refine Kd.C_alloc ?_ _) | (with_reducible refine Kd.C_drewN ?_ _) | (with_reducible refine Kd.C_drew ?_))); (case side2 => exact HC533_1.out); (case side3 => repeat (first | exact (Kd.C_below HR534_1.out HB.out) | (with_reducible refine Kd.C_alloc ?_ _) | (with_reducible refine Kd.C_drewN ?_ _) | (with_reducible refine Kd.C_drew ?_))); (case side4 => exact HC534_1.out); rintro e w' ⟨rfl, ⟨nd, rfl⟩⟩; (try first | exact ⟨rfl, _, World.drewN_drewN _ _ _⟩ | exact ⟨rfl, _, Eq.trans (World.drewN_drewN _ _ _) (congrArg (World.drewN _) (Nat.add_assoc _ _ _))⟩))); try go_wp2_with (first | (go_at_call 62; (with_reducible refine (tollgateref08_SameTargets.calls k2 _ _ ((rd_T69 l0_2 x5_2).f1) _ _ ((rd_T69 l1_2 x5_2).f1) false _ ?side1 ?side2 ?side3 ?side4 A22.out).mono ?_); (case side1 => repeat (first | exact (Kd.C_below HR533_1.out HB.out) | (with_reducible refine Kd.C_alloc ?_ _) | (with_reducible refine Kd.C_drewN ?_ _) | (with_reducible refine Kd.C_drew ?_))); (case side2 => exact HC533_1.out); (case side3 => repeat (first | exact (Kd.C_below HR534_1.out HB.out) | (with_reducible refine Kd.C_alloc ?_ _) | (with_reducible refine Kd.C_drewN ?_ _) | (with_reducible refine Kd.C_drew ?_))); (case side4 => exact HC534_1.out); rintro e w' ⟨rfl, ⟨nd, rfl⟩⟩; (try first | exact ⟨rfl, _, World.drewN_drewN _ _ _⟩ | exact ⟨rfl, _, Eq.trans (World.drewN_drewN _ _ _) (congrArg (World.drewN _) (Nat.add_assoc _ _ _))⟩))))
                      go_ret
                      exact ⟨by first | rfl | (simp [errW_none, errW_some] <;> rfl) | (simp [*, errW_none, errW_some] <;> rfl), by repeat (first | (with_reducible first | exact HB.out | apply below_alloc | apply pw_below_drewN | apply below_drew1 | refine below_set ?_ GE529.out | refine below_set ?_ GE530.out) | exact HB.out)⟩
                  · rw [if_neg c21] at H
                    have c21b0 : (((rd_T69 l0_2 x5_2).f0).toList == ((rd_T69 l1_2 x5_2).f0).toList) = false := beq_eq_false_iff_ne.mpr c21
                    have c21b1 : (((rd_T69 l0_2 x5_2).f0).toList != ((rd_T69 l1_2 x5_2).f0).toList) = true := bne_iff_ne.mpr c21
                    obtain rfl := Option.some.inj H
                    have hnb30 := NB529_530.out
                    have hnc30 := NB530_529.out
                    have hcz31_0 : wr.cell? ⟨gb529, 0, none⟩ = some (.int .i64 a0_0) := (blk_cell BK529.out 0).trans rfl
                    have hcz31_1 : wr.cell? ⟨gb529, 1, none⟩ = some (.slice A0_1 l0_1.length c0_1) := (blk_cell BK529.out 1).trans rfl
                    have hcz31_2 : wr.cell? ⟨gb529, 2, none⟩ = some (.slice A0_2 l0_2.length c0_2) := (blk_cell BK529.out 2).trans rfl
                    have hfz31_0 := blk_frozen BK529.out 0
                    have hfz31_1 := blk_frozen BK529.out 1
                    have hfz31_2 := blk_frozen BK529.out 2
                    have p531 : 0 ≤ (x5_2 : Int) := of_decide_eq_true (by first | (with_reducible assumption) | assumption)
                    have q531 : x5_2 < (l0_2.length : Int) := of_decide_eq_true (by first | (with_reducible assumption) | assumption)
                    obtain ⟨ad531, A531_1, c531_1, e531, hx531_0, hx531_1, hl531_1, hi531_1⟩ := at_T69 HR0_2.out x5_2 p531 q531
                    cases e531
                    replace hx531_0 := (HB.out.cell (World.block_lt_of_cell? w _ hx531_0)).trans hx531_0
                    replace hx531_1 := (HB.out.cell (World.block_lt_of_cell? w _ hx531_1)).trans hx531_1
                    have HR531_1 := Aside0.mk hi531_1
                    have HC531_1 := Aside0.mk hl531_1
                    clear hi531_1 hl531_1
                    replace p531 := eq_true p531
                    replace q531 := eq_true q531
                    have hcz32_0 : wr.cell? ⟨gb530, 0, none⟩ = some (.int .i64 a1_0) := (blk_cell BK530.out 0).trans rfl
                    have hcz32_1 : wr.cell? ⟨gb530, 1, none⟩ = some (.slice A1_1 l1_1.length c1_1) := (blk_cell BK530.out 1).trans rfl
                    have hcz32_2 : wr.cell? ⟨gb530, 2, none⟩ = some (.slice A1_2 l1_2.length c1_2) := (blk_cell BK530.out 2).trans rfl
                    have hfz32_0 := blk_frozen BK530.out 0
                    have hfz32_1 := blk_frozen BK530.out 1
                    have hfz32_2 := blk_frozen BK530.out 2
                    have p532 : 0 ≤ (x5_2 : Int) := of_decide_eq_true (by first | (with_reducible assumption) | assumption)
                    have q532 : x5_2 < (l1_2.length : Int) := of_decide_eq_true (by first | (with_reducible assumption) | assumption)
                    obtain ⟨ad532, A532_1, c532_1, e532, hx532_0, hx532_1, hl532_1, hi532_1⟩ := at_T69 HR1_2.out x5_2 p532 q532
                    cases e532
                    replace hx532_0 := (HB.out.cell (World.block_lt_of_cell? w _ hx532_0)).trans hx532_0
                    replace hx532_1 := (HB.out.cell (World.block_lt_of_cell? w _ hx532_1)).trans hx532_1
                    have HR532_1 := Aside0.mk hi532_1
                    have HC532_1 := Aside0.mk hl532_1
                    clear hi532_1 hl532_1
                    replace p532 := eq_true p532
                    replace q532 := eq_true q532
                    go_wp2
                    repeat (go_quiet (fail); try go_wp2)
                    go_ret
                    exact ⟨by first | rfl | (simp [errW_none, errW_some] <;> rfl) | (simp [*, errW_none, errW_some] <;> rfl), by repeat (first | (with_reducible first | exact HB.out | apply below_alloc | apply pw_below_drewN | apply below_drew1 | refine below_set ?_ GE529.out | refine below_set ?_ GE530.out) | exact HB.out)⟩
                · rw [if_neg c20] at H
                  exact absurd H (by simp)
              · rw [if_neg c19] at H
                exact absurd H (by simp)
            · rw [if_neg c18] at H
              have c18b0 : decide (x5_2 < (l0_2.length : Int)) = false := decide_eq_false c18
              clear c18
              have H' := Aside0.mk H
              clear H
              have hnb33 := NB529_530.out
              have hnc33 := NB530_529.out
              have hcz34_0 : wr.cell? ⟨gb529, 0, none⟩ = some (.int .i64 a0_0) := (blk_cell BK529.out 0).trans rfl
              have hcz34_1 : wr.cell? ⟨gb529, 1, none⟩ = some (.slice A0_1 l0_1.length c0_1) := (blk_cell BK529.out 1).trans rfl
              have hcz34_2 : wr.cell? ⟨gb529, 2, none⟩ = some (.slice A0_2 l0_2.length c0_2) := (blk_cell BK529.out 2).trans rfl
              have hfz34_0 := blk_frozen BK529.out 0
              have hfz34_1 := blk_frozen BK529.out 1
              have hfz34_2 := blk_frozen BK529.out 2
              go_wp2
              repeat (go_quiet (fail); try go_wp2)
              go_loopg [6] k2 (fun kq v6 w' => ∃ (x6_3 : Int), v6 = .int .i64 x6_3 ∧ Aside0 (tollgateref08_SameConfig.l1 kq x6_3 a0_0 l0_1 l0_2 a1_0 l1_1 l1_2 = some r) ∧ Aside0 (kq ≤ k2) ∧ Aside0 (w'.heap[gb529]? = some (.cells #[.int .i64 a0_0, (.slice A0_1 l0_1.length c0_1), (.slice A0_2 l0_2.length c0_2)] 57 (0, 0))) ∧ Aside0 (w'.heap[gb530]? = some (.cells #[.int .i64 a1_0, (.slice A1_1 l1_1.length c1_1), (.slice A1_2 l1_2.length c1_2)] 57 (0, 0))) ∧ Aside0 (Below w.heap.size w w'))
              case atStart => exact ⟨(0), (by first | rfl | (simp; done) | (simp [*]; done)), H', ⟨Nat.le_refl _⟩, ⟨by (with_reducible repeat (first | refine blk_drewN ?_ _ | refine blk_drew ?_ | refine blk_alloc ?_ _)); exact BK529.out⟩, ⟨by (with_reducible repeat (first | refine blk_drewN ?_ _ | refine blk_drew ?_ | refine blk_alloc ?_ _)); exact BK530.out⟩, ⟨by repeat (first | (with_reducible first | exact HB.out | apply below_alloc | apply pw_below_drewN | apply below_drew1 | refine below_set ?_ GE529.out | refine below_set ?_ GE530.out) | exact HB.out)⟩⟩
              case round =>
                clear H'
                try clear c1
                try clear c2
                try clear p2
                try clear c3
                try clear c5
                try clear p5
                try clear q5
                try clear hx5
                try clear c6
                try clear c6b0
                try clear c6b1
                try clear p6
                try clear c7
                try clear c7b0
                try clear c7b1
                try clear c7b2
                try clear c8
                try clear c11
                try clear c14
                try clear c17
                try clear c18
                try clear c18b0
                try clear c19
                try clear c19b0
                try clear c20
                try clear c20b0
                try clear c21
                try clear c21b0
                try clear c21b1
                try clear c23
                try clear c24
                try clear c27
                try clear c30
                try clear c33
                try clear c34
                try clear hcz10_0
                try clear hcz10_1
                try clear hcz10_2
                try clear hcz12_0
                try clear hcz12_1
                try clear hcz12_2
                try clear hcz13_0
                try clear hcz13_1
                try clear hcz13_2
                try clear hcz15_0
                try clear hcz15_1
                try clear hcz15_2
                try clear hcz16_0
                try clear hcz16_1
                try clear hcz16_2
                try clear hcz25_0
                try clear hcz25_1
                try clear hcz25_2
                try clear hcz26_0
                try clear hcz26_1
                try clear hcz26_2
                try clear hcz28_0
                try clear hcz28_1
                try clear hcz28_2
                try clear hcz29_0
                try clear hcz29_1
                try clear hcz29_2
                try clear hcz31_0
                try clear hcz31_1
                try clear hcz31_2
                try clear hcz32_0
                try clear hcz32_1
                try clear hcz32_2
                try clear hcz34_0
                try clear hcz34_1
                try clear hcz34_2
                try clear hcz9_0
                try clear hcz9_1
                try clear hcz9_2
                try clear hfz10_0
                try clear hfz10_1
                try clear hfz10_2
                try clear hfz12_0
                try clear hfz12_1
                try clear hfz12_2
                try clear hfz13_0
                try clear hfz13_1
                try clear hfz13_2
                try clear hfz15_0
                try clear hfz15_1
                try clear hfz15_2
                try clear hfz16_0
                try clear hfz16_1
                try clear hfz16_2
                try clear hfz25_0
                try clear hfz25_1
                try clear hfz25_2
                try clear hfz26_0
                try clear hfz26_1
                try clear hfz26_2
                try clear hfz28_0
                try clear hfz28_1
                try clear hfz28_2
                try clear hfz29_0
                try clear hfz29_1
                try clear hfz29_2
                try clear hfz31_0
                try clear hfz31_1
                try clear hfz31_2
                try clear hfz32_0
                try clear hfz32_1
                try clear hfz32_2
                try clear hfz34_0
                try clear hfz34_1
                try clear hfz34_2
                try clear hfz9_0
                try clear hfz9_1
                try clear hfz9_2
                try clear hx531_0
                try clear hx531_1
                try clear hx532_0
                try clear hx532_1
                try clear hx533_0
                try clear hx533_1
                try clear hx534_0
                try clear hx534_1
                try clear p2
                try clear p531
                try clear p532
                try clear p533
                try clear p534
                try clear q531
                try clear q532
                try clear q533
                try clear q534
                obtain ⟨x6_3, rfl, HA, HK3, BK529, BK530, HB⟩ := hrel
                cases gk with
                | zero => exact absurd HA.out (by simp [tollgateref08_SameConfig.l1])
                | succ k3 =>
                  have H := HA.out
                  clear HA
                  simp only [tollgateref08_SameConfig.l1] at H
                  by_cases c35 : x6_3 < (l0_1.length : Int)
                  · rw [if_pos c35] at H
                    have c35b0 : decide (x6_3 < (l0_1.length : Int)) = true := decide_eq_true c35
                    clear c35
                    by_cases c36 : 0 ≤ x6_3
                    · rw [if_pos c36] at H
                      have c36b0 : decide (0 ≤ x6_3) = true := decide_eq_true c36
                      clear c36
                      by_cases c37 : x6_3 < (l1_1.length : Int)
                      · rw [if_pos c37] at H
                        have c37b0 : decide (x6_3 < (l1_1.length : Int)) = true := decide_eq_true c37
                        clear c37
                        by_cases c38 : (!((((rd_T95 l0_1 x6_3).f0).toList) == (((rd_T95 l1_1 x6_3).f0).toList)) || (!((((rd_T95 l0_1 x6_3).f1).toList) == (((rd_T95 l1_1 x6_3).f1).toList)) || (!((((rd_T95 l0_1 x6_3).f2).toList) == (((rd_T95 l1_1 x6_3).f2).toList))))) = true
                        · rw [if_pos c38] at H
                          have c38b0 : (!((((rd_T95 l0_1 x6_3).f0).toList) == (((rd_T95 l1_1 x6_3).f0).toList)) || (!((((rd_T95 l0_1 x6_3).f1).toList) == (((rd_T95 l1_1 x6_3).f1).toList)) || (!((((rd_T95 l0_1 x6_3).f2).toList) == (((rd_T95 l1_1 x6_3).f2).toList))))) = true := c38
                          clear c38
                          obtain rfl := Option.some.inj H
                          have hnb39 := NB529_530.out
                          have hnc39 := NB530_529.out
                          have hcz40_0 : wr.cell? ⟨gb529, 0, none⟩ = some (.int .i64 a0_0) := (blk_cell BK529.out 0).trans rfl
                          have hcz40_1 : wr.cell? ⟨gb529, 1, none⟩ = some (.slice A0_1 l0_1.length c0_1) := (blk_cell BK529.out 1).trans rfl
                          have hcz40_2 : wr.cell? ⟨gb529, 2, none⟩ = some (.slice A0_2 l0_2.length c0_2) := (blk_cell BK529.out 2).trans rfl
                          have hfz40_0 := blk_frozen BK529.out 0
                          have hfz40_1 := blk_frozen BK529.out 1
                          have hfz40_2 := blk_frozen BK529.out 2
                          have p536 : 0 ≤ (x6_3 : Int) := of_decide_eq_true (by first | (with_reducible assumption) | assumption)
                          have q536 : x6_3 < (l0_1.length : Int) := of_decide_eq_true (by first | (with_reducible assumption) | assumption)
                          obtain ⟨ad536, e536, hx536_0, hx536_1, hx536_2⟩ := at_T95 HR0_1.out x6_3 p536 q536
                          cases e536
                          replace hx536_0 := (HB.out.cell (World.block_lt_of_cell? w _ hx536_0)).trans hx536_0
                          replace hx536_1 := (HB.out.cell (World.block_lt_of_cell? w _ hx536_1)).trans hx536_1
                          replace hx536_2 := (HB.out.cell (World.block_lt_of_cell? w _ hx536_2)).trans hx536_2
                          replace p536 := eq_true p536
                          replace q536 := eq_true q536
                          have hcz41_0 : wr.cell? ⟨gb530, 0, none⟩ = some (.int .i64 a1_0) := (blk_cell BK530.out 0).trans rfl
                          have hcz41_1 : wr.cell? ⟨gb530, 1, none⟩ = some (.slice A1_1 l1_1.length c1_1) := (blk_cell BK530.out 1).trans rfl
                          have hcz41_2 : wr.cell? ⟨gb530, 2, none⟩ = some (.slice A1_2 l1_2.length c1_2) := (blk_cell BK530.out 2).trans rfl
                          have hfz41_0 := blk_frozen BK530.out 0
                          have hfz41_1 := blk_frozen BK530.out 1
                          have hfz41_2 := blk_frozen BK530.out 2
                          have p537 : 0 ≤ (x6_3 : Int) := of_decide_eq_true (by first | (with_reducible assumption) | assumption)
                          have q537 : x6_3 < (l1_1.length : Int) := of_decide_eq_true (by first | (with_reducible assumption) | assumption)
                          obtain ⟨ad537, e537, hx537_0, hx537_1, hx537_2⟩ := at_T95 HR1_1.out x6_3 p537 q537
                          cases e537
                          replace hx537_0 := (HB.out.cell (World.block_lt_of_cell? w _ hx537_0)).trans hx537_0
                          replace hx537_1 := (HB.out.cell (World.block_lt_of_cell? w _ hx537_1)).trans hx537_1
                          replace hx537_2 := (HB.out.cell (World.block_lt_of_cell? w _ hx537_2)).trans hx537_2
                          replace p537 := eq_true p537
                          replace q537 := eq_true q537
                          go_wp2
                          repeat (go_quiet (fail); try go_wp2)
                          go_ret
                          exact ⟨by first | rfl | (simp [errW_none, errW_some] <;> rfl) | (simp [*, errW_none, errW_some] <;> rfl), by repeat (first | (with_reducible first | exact HB.out | apply below_alloc | apply pw_below_drewN | apply below_drew1 | refine below_set ?_ GE529.out | refine below_set ?_ GE530.out) | exact HB.out)⟩
                        · rw [if_neg c38] at H
                          have c38b0 : (!((((rd_T95 l0_1 x6_3).f0).toList) == (((rd_T95 l1_1 x6_3).f0).toList)) || (!((((rd_T95 l0_1 x6_3).f1).toList) == (((rd_T95 l1_1 x6_3).f1).toList)) || (!((((rd_T95 l0_1 x6_3).f2).toList) == (((rd_T95 l1_1 x6_3).f2).toList))))) = false := by simpa using c38
                          clear c38
                          have H' := Aside0.mk H
                          clear H
                          have hnb42 := NB529_530.out
                          have hnc42 := NB530_529.out
                          have hcz43_0 : wr.cell? ⟨gb529, 0, none⟩ = some (.int .i64 a0_0) := (blk_cell BK529.out 0).trans rfl
                          have hcz43_1 : wr.cell? ⟨gb529, 1, none⟩ = some (.slice A0_1 l0_1.length c0_1) := (blk_cell BK529.out 1).trans rfl
                          have hcz43_2 : wr.cell? ⟨gb529, 2, none⟩ = some (.slice A0_2 l0_2.length c0_2) := (blk_cell BK529.out 2).trans rfl
                          have hfz43_0 := blk_frozen BK529.out 0
                          have hfz43_1 := blk_frozen BK529.out 1
                          have hfz43_2 := blk_frozen BK529.out 2
                          have p536 : 0 ≤ (x6_3 : Int) := of_decide_eq_true (by first | (with_reducible assumption) | assumption)
                          have q536 : x6_3 < (l0_1.length : Int) := of_decide_eq_true (by first | (with_reducible assumption) | assumption)
                          obtain ⟨ad536, e536, hx536_0, hx536_1, hx536_2⟩ := at_T95 HR0_1.out x6_3 p536 q536
                          cases e536
                          replace hx536_0 := (HB.out.cell (World.block_lt_of_cell? w _ hx536_0)).trans hx536_0
                          replace hx536_1 := (HB.out.cell (World.block_lt_of_cell? w _ hx536_1)).trans hx536_1
                          replace hx536_2 := (HB.out.cell (World.block_lt_of_cell? w _ hx536_2)).trans hx536_2
                          replace p536 := eq_true p536
                          replace q536 := eq_true q536
                          have hcz44_0 : wr.cell? ⟨gb530, 0, none⟩ = some (.int .i64 a1_0) := (blk_cell BK530.out 0).trans rfl
                          have hcz44_1 : wr.cell? ⟨gb530, 1, none⟩ = some (.slice A1_1 l1_1.length c1_1) := (blk_cell BK530.out 1).trans rfl
                          have hcz44_2 : wr.cell? ⟨gb530, 2, none⟩ = some (.slice A1_2 l1_2.length c1_2) := (blk_cell BK530.out 2).trans rfl
                          have hfz44_0 := blk_frozen BK530.out 0
                          have hfz44_1 := blk_frozen BK530.out 1
                          have hfz44_2 := blk_frozen BK530.out 2
                          have p537 : 0 ≤ (x6_3 : Int) := of_decide_eq_true (by first | (with_reducible assumption) | assumption)
                          have q537 : x6_3 < (l1_1.length : Int) := of_decide_eq_true (by first | (with_reducible assumption) | assumption)
                          obtain ⟨ad537, e537, hx537_0, hx537_1, hx537_2⟩ := at_T95 HR1_1.out x6_3 p537 q537
                          cases e537
                          replace hx537_0 := (HB.out.cell (World.block_lt_of_cell? w _ hx537_0)).trans hx537_0
                          replace hx537_1 := (HB.out.cell (World.block_lt_of_cell? w _ hx537_1)).trans hx537_1
                          replace hx537_2 := (HB.out.cell (World.block_lt_of_cell? w _ hx537_2)).trans hx537_2
                          replace p537 := eq_true p537
                          replace q537 := eq_true q537
                          go_wp2
                          repeat (go_quiet (fail); try go_wp2)
                          go_roundg k3
                          case measure => have := HJ2.out; have := HK2.out; have := HK3.out; omega
                          case rel => exact ⟨(wrap64 (x6_3 + 1)), (by first | rfl | (simp; done) | (simp [*]; done)), H', ⟨by have := HJ2.out; have := HK2.out; have := HK3.out; omega⟩, ⟨by (with_reducible repeat (first | refine blk_drewN ?_ _ | refine blk_drew ?_ | refine blk_alloc ?_ _)); exact BK529.out⟩, ⟨by (with_reducible repeat (first | refine blk_drewN ?_ _ | refine blk_drew ?_ | refine blk_alloc ?_ _)); exact BK530.out⟩, ⟨by repeat (first | (with_reducible first | exact HB.out | apply below_alloc | apply pw_below_drewN | apply below_drew1 | refine below_set ?_ GE529.out | refine below_set ?_ GE530.out) | exact HB.out)⟩⟩
                      · rw [if_neg c37] at H
                        exact absurd H (by simp)
                    · rw [if_neg c36] at H
                      exact absurd H (by simp)
                  · rw [if_neg c35] at H
                    have c35b0 : decide (x6_3 < (l0_1.length : Int)) = false := decide_eq_false c35
                    clear c35
                    obtain rfl := Option.some.inj H
                    have hnb45 := NB529_530.out
                    have hnc45 := NB530_529.out
                    have hcz46_0 : wr.cell? ⟨gb529, 0, none⟩ = some (.int .i64 a0_0) := (blk_cell BK529.out 0).trans rfl
                    have hcz46_1 : wr.cell? ⟨gb529, 1, none⟩ = some (.slice A0_1 l0_1.length c0_1) := (blk_cell BK529.out 1).trans rfl
                    have hcz46_2 : wr.cell? ⟨gb529, 2, none⟩ = some (.slice A0_2 l0_2.length c0_2) := (blk_cell BK529.out 2).trans rfl
                    have hfz46_0 := blk_frozen BK529.out 0
                    have hfz46_1 := blk_frozen BK529.out 1
                    have hfz46_2 := blk_frozen BK529.out 2
                    go_wp2
                    repeat (go_quiet (fail); try go_wp2)
                    go_ret
                    exact ⟨by first | rfl | (simp [errW_none, errW_some] <;> rfl) | (simp [*, errW_none, errW_some] <;> rfl), by repeat (first | (with_reducible first | exact HB.out | apply below_alloc | apply pw_below_drewN | apply below_drew1 | refine below_set ?_ GE529.out | refine below_set ?_ GE530.out) | exact HB.out)⟩

end Go.Proofs.YtlknaikdlkobjaaDoor.Q
