-- Laid by lay.py, a program of this session's, out of the translation (the kit's printer with additions of ours). Lean checks it.
import Derived.Test.YtlknaikdlkobjaaDoorQx0
import Derived.Test.YtlknaikdlkobjaaDoorQx53
import Derived.Test.YtlknaikdlkobjaaDoorQx56
namespace Go.Proofs.YtlknaikdlkobjaaDoor.Q
open Go.RowKit Go.Proofs.YtlknaikdlkobjaaDoorW.PrintWords Go.Proofs.YtlknaikdlkobjaaDoorW.PrintLast Go.Proofs.YtlknaikdlkobjaaDoorW.PrintMore
attribute [local go_sem] max2_int min2_int max_two min_two max_three min_three max_four min_four   -- for this text's walks alone
attribute [local go_sem] fbin_eql fbin_neq fbin_lss fbin_leq fbin_gtr fbin_geq frun_add frun_sub frun_mul frun_quo frun_store fun_neg fcv_int fcv_same fb94 fb118
set_option linter.unusedVariables false
set_option linter.unusedSimpArgs false

-- NOT PRINTED: function 35 (plane_Plane_Config)

-- NOT PRINTED: function 14 (tollgatelaw10_PlaneSame)

/-! ### tollgatelaw10_PlaneNone: function 15 -/
set_option maxHeartbeats 2000000 in
theorem plane_Apply_nil (a : Int) (A1 : Option Addr) (n1 c1 : Nat) (A2 : Option Addr) (n2 c2 : Nat) (w : World) :
    Calls Tryd.prog 31 #[.pointer none, .agg #[.int .i64 a, .slice A1 n1 c1, .slice A2 n2 c2]] w fun e w' => e = .returned (.int .i64 1) ∧ Below w.heap.size w w' := by
  go_enter Tryd.func31, Tryd.ntmps31
  go_wp2_with (first | ((with_reducible refine gate_dst (N := 3) rfl ?_); refine box_event ?hg (N := 3) ?hd (cs := #[.int .i64 a, .slice A1 n1 c1, .slice A2 n2 c2]) (t := 57) ?hr ?_; (case hd => rfl); (case hg => rfl); (case hr => first | (go_simp; done) | (go_simp; rfl)); intro gb hg w1 hbox hb; have HB := Aside0.mk hb; clear hb hbox hg))
  go_ret
  exact ⟨rfl, HB.out⟩
set_option maxHeartbeats 2000000 in
theorem plane_Version_nil (w : World) : Calls Tryd.prog 33 #[.pointer none] w fun e w' => e = .returned (.int .i64 0) ∧ Below w.heap.size w w' := by
  go_enter Tryd.func33, Tryd.ntmps33
  go_wp2
  go_ret
  exact ⟨rfl, Below.refl _ _⟩
set_option maxHeartbeats 2000000 in
theorem plane_Config_nil (w : World) : Calls Tryd.prog 35 #[.pointer none] w fun e w' => e = .returned (.agg #[.int .i64 0, .slice none 0 0, .slice none 0 0]) ∧ Below w.heap.size w w' := by
  go_enter Tryd.func35, Tryd.ntmps35
  go_wp2_with (first | ((with_reducible refine gate_dst (N := 2) rfl ?_); refine box_event ?hg (N := 2) ?hd (cs := #[.int .i64 0, .slice none 0 0, .slice none 0 0]) (t := 57) ?hr ?_; (case hd => rfl); (case hg => rfl); (case hr => first | (go_simp; done) | (go_simp; rfl)); intro gb hg w1 hbox hb; have HB := Aside0.mk hb; have BK := Aside0.mk hbox; have GE := Aside0.mk (Nat.le_of_eq hg.symm); have c0 := (blk_cell hbox 0).trans rfl; have c1 := (blk_cell hbox 1).trans rfl; have c2 := (blk_cell hbox 2).trans rfl; have f0 := blk_frozen hbox 0; have f1 := blk_frozen hbox 1; have f2 := blk_frozen hbox 2; clear hb hbox hg))
  refine bodyPost_ret (results_single rfl (Vals.cell gb 57 #[.int .i64 0, .slice none 0 0, .slice none 0 0] (0, 0) _ rfl (blk_put (blk_put (blk_put BK.out 0 _ rfl) 1 _ rfl) 2 _ rfl) Tryd.underlying57 rfl (by kernel_rfl) Vals.nil)) rfl ?_
  exact ⟨rfl, below_set (below_set (below_set HB.out GE.out) GE.out) GE.out⟩
set_option maxHeartbeats 2000000 in
theorem plane_Serve_nil (v1 v2 : Value) (w : World) : Calls Tryd.prog 32 #[.pointer none, v1, v2] w fun e w' => e = .returned (.agg #[.int .i64 0, .int .i64 0, .string ⟨#[]⟩, .string ⟨#[]⟩]) ∧ Below w.heap.size w w' := by
  go_enter Tryd.func32, Tryd.ntmps32
  go_wp2_with (first | ((with_reducible refine gate_dst (N := 6) rfl ?_); refine box_event ?hg (N := 6) ?hd (cs := #[.int .i64 0, .int .i64 0, .string ⟨#[]⟩, .string ⟨#[]⟩]) (t := 64) ?hr ?_; (case hd => rfl); (case hg => rfl); (case hr => first | (go_simp; done) | (go_simp; rfl)); intro gb hg w1 hbox hb; have HB := Aside0.mk hb; have BK := Aside0.mk hbox; have GE := Aside0.mk (Nat.le_of_eq hg.symm); have c0 := (blk_cell hbox 0).trans rfl; have c1 := (blk_cell hbox 1).trans rfl; have c2 := (blk_cell hbox 2).trans rfl; have c3 := (blk_cell hbox 3).trans rfl; have f0 := blk_frozen hbox 0; have f1 := blk_frozen hbox 1; have f2 := blk_frozen hbox 2; have f3 := blk_frozen hbox 3; clear hb hbox hg))
  refine bodyPost_ret (results_single rfl (Vals.cell gb 64 #[.int .i64 0, .int .i64 0, .string ⟨#[]⟩, .string ⟨#[]⟩] (0, 0) _ rfl (blk_put (blk_put (blk_put (blk_put BK.out 0 _ rfl) 1 _ rfl) 2 _ rfl) 3 _ rfl) Tryd.underlying64 rfl (by kernel_rfl) Vals.nil)) rfl ?_
  exact ⟨rfl, below_set (below_set (below_set (below_set HB.out GE.out) GE.out) GE.out) GE.out⟩
def tollgatelaw10_PlaneNone.f (_a0_0 : Int) (_l0_1 : List S95) (_l0_2 : List S69) (_l1 : List Int) (_a2 : Nat) : Option Bool := some true
set_option maxHeartbeats 4000000 in
set_option maxRecDepth 100000 in
theorem tollgatelaw10_PlaneNone.calls (a0_0 : Int) (A0_1 : Option Addr) (c0_1 : Nat) (l0_1 : List S95) (A0_2 : Option Addr) (c0_2 : Nat) (l0_2 : List S69) (A1 : Option Addr) (c1 : Nat) (l1 : List Int) (a2 : Nat) (r : Bool) (w : World)
    (_hr0_1 : Kd.C k95 w A0_1 l0_1.length l0_1) (_hc0_1 : l0_1.length ≤ c0_1) (_hr0_2 : Kd.C k69 w A0_2 l0_2.length l0_2) (_hc0_2 : l0_2.length ≤ c0_2) (_hr1 : Kd.C (Kd.int .u8) w A1 l1.length l1) (_hc1 : l1.length ≤ c1) (h : tollgatelaw10_PlaneNone.f a0_0 l0_1 l0_2 l1 a2 = some r) :
    Calls Tryd.prog 15 #[.agg #[.int .i64 a0_0, .slice A0_1 l0_1.length c0_1, .slice A0_2 l0_2.length c0_2], .slice A1 l1.length c1, .float .f64 a2] w fun e w' => e = .returned (.bool r) ∧ Below w.heap.size w w' := by
  obtain rfl := Option.some.inj h
  clear h _hr0_1 _hc0_1 _hr0_2 _hc0_2 _hr1 _hc1
  generalize l0_1.length = n1
  generalize l0_2.length = n2
  generalize l1.length = n3
  have HL := Aside0.mk (show tollgatelaw10_live.f 200 = some true by decide +kernel)
  have HS := Aside0.mk (show tollgateref08_SameConfig.f 20 0 [] [] 0 [] [] = some true by decide +kernel)
  have hu64 := Tryd.underlying64
  have hu57 := Tryd.underlying57
  go_enter Tryd.func15, Tryd.ntmps15
  go_wp2_with (first | ((with_reducible refine gate_dst (N := 3) rfl ?_); refine box_event ?hg (N := 3) ?hd (cs := #[.int .i64 a0_0, .slice A0_1 n1 c0_1, .slice A0_2 n2 c0_2]) (t := 57) ?hr ?_; (case hd => rfl); (case hg => rfl); (case hr => first | (go_simp; done) | (go_simp; rfl)); intro gb hg w1 hbox hb; have HB := Aside0.mk hb; have BK := Aside0.mk hbox; clear hb hbox hg))
  refine (tollgatelaw10_live.calls 200 true _ HL.out).mono ?_
  rintro e w2 ⟨rfl, hb2⟩
  have HB2 := Aside0.mk (below_step HB.out hb2)
  have hbx := blk_below BK.out hb2
  have q0 := (blk_cell hbx 0).trans rfl
  have q1 := (blk_cell hbx 1).trans rfl
  have q2 := (blk_cell hbx 2).trans rfl
  clear hb2 hbx HB BK
  go_wp2_with fail
  refine (plane_Apply_nil _ _ _ _ _ _ _ _).mono ?_
  rintro e w3 ⟨rfl, hb3⟩
  have HB3 := Aside0.mk (below_step HB2.out hb3)
  clear hb3 HB2 q0 q1 q2
  go_wp2_with fail
  refine (plane_Serve_nil _ _ _).mono ?_
  rintro e w4 ⟨rfl, hb4⟩
  have HB4 := Aside0.mk (below_step HB3.out hb4)
  clear hb4 HB3
  go_wp2_with fail
  refine (plane_Config_nil _).mono ?_
  rintro e w5 ⟨rfl, hb5⟩
  have HB5 := Aside0.mk (below_step HB4.out hb5)
  clear hb5 HB4
  go_wp2_with fail
  refine (tollgateref08_SameConfig.calls 20 0 none 0 [] none 0 [] 0 none 0 [] none 0 [] true _ (Kd.C_nil _ _) (Nat.le_refl _) (Kd.C_nil _ _) (Nat.le_refl _) (Kd.C_nil _ _) (Nat.le_refl _) (Kd.C_nil _ _) (Nat.le_refl _) HS.out).mono ?_
  rintro e w6 ⟨rfl, hb6⟩
  have HB6 := Aside0.mk (below_step HB5.out hb6)
  clear hb6 HB5
  go_wp2_with fail
  refine (plane_Version_nil _).mono ?_
  rintro e w7 ⟨rfl, hb7⟩
  have HB7 := Aside0.mk (below_step HB6.out hb7)
  clear hb7 HB6
  go_wp2
  go_ret
  exact ⟨rfl, HB7.out⟩


end Go.Proofs.YtlknaikdlkobjaaDoor.Q
